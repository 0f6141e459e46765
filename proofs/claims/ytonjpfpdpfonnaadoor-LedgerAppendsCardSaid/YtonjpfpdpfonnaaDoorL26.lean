/-
  LEDGERS: digests.
-/
import Derived.Test.YtonjpfpdpfonnaaDoorL25
import Derived.Test.YtonjpfpdpfonnaaDoorSyU
namespace Go.Proofs.YtonjpfpdpfonnaaDoor
open Go.RowKit
namespace Sx
theorem blsG1 (d : Dg) : Bls Tryd.prog 101 1 [0] [gD d.1] ([d].flatMap encG) := ⟨79, fun L w vs hv => by
  obtain ⟨b, h⟩ := d
  obtain ⟨u, rfl, hu⟩ := all1 hv
  have e : ([(⟨b, h⟩ : Dg)].flatMap encG) = (cellsOf b).map isD := by simp [encG]
  rw [e]
  obtain ⟨a0, a1, a2, a3, a4, a5, a6, a7, a8, a9, b0, b1, b2, b3, b4, b5, b6, b7, b8, b9, c0, c1, c2, c3, c4, c5, c6, c7, c8, c9, d0, d1, rfl⟩ := list32 h
  obtain rfl : u = _ := hu
  refine ⟨cellsOf _, all_is _, fun w' => ?_⟩
  kernel_rfl⟩
theorem map_snoc {q : List Dg} {p : List (List UInt8)} {i : Nat} {x : List UInt8} (hq : q.map (·.1) = p.take i) (hx : p[i]? = some x) (h : x.length = 32) : (q ++ [(⟨x, h⟩ : Dg)]).map (·.1) = p.take (i + 1) := by
  rw [take_snoc hx, List.map_append, hq]
  rfl
theorem dg_inj {q r : List Dg} (h : q.map (·.1) = r.map (·.1)) : q = r := by
  induction q generalizing r with
  | nil => cases r with
    | nil => rfl
    | cons => simp at h
  | cons x q ih => cases r with
    | nil => simp at h
    | cons y r =>
      simp at h
      rw [ih h.2, Subtype.ext h.1]
set_option maxHeartbeats 4000000 in
set_option maxRecDepth 100000 in
theorem con_digests (p : List (List UInt8)) (hp : p.length ≤ 1000000) (res : Option (List Dg)) (hres : match res with | some q => q.map (·.1) = p | none => ∃ d ∈ p, d.length ≠ 32) : Con Tryd.prog 55 [aggD [lsD encL p]] (match res with | some q => tupD [lsD encG q, boolD true] | none => tupD [lsD encG [], boolD false]) := by
  refine con_of Tryd.func55 (by kernel_rfl) rfl (by kernel_rfl) fun base w0 => ?_
  refine SW.seq ?_
  refine SW.region ?_
  refine SWl.ef (S := []) (Ef.boxA rfl rfl) ?_
  rintro _ ⟨g1, rfl⟩
  refine SWl.rd rfl (Rd.assign rfl) ?_
  refine SWl.rd rfl (Rd.assign rfl) ?_
  refine SWl.nil ?_
  refine SN.then ?_
  refine SW.seq ?_
  refine SW.region ?_
  refine SWl.rd rfl (Rd.fieldAddr (n := 0) rfl (by kernel_rfl)) ?_
  refine SWl.rd rfl (Rd.loadB 0 rfl rfl rfl (by kernel_rfl) ap_nil) ?_
  refine SWl.rd rfl (Rd.lenR (e := 28) rfl (by kernel_rfl)) ?_
  refine SWl.ef (S := []) (Ef.makeT (e := 79) (c := p.length) encG 32 32 rfl rfl (by kernel_rfl) (by kernel_rfl) rfl (by omega) (by decide) rfl) ?_
  rintro _ ⟨g10, rfl⟩
  refine SWl.rd rfl (Rd.assign rfl) ?_
  refine SWl.nil ?_
  refine SN.then ?_
  refine SW.seq ?_
  refine SW.seq ?_
  refine SW.region ?_
  refine SWl.rd rfl (Rd.fieldAddr (n := 0) rfl (by kernel_rfl)) ?_
  refine SWl.rd rfl (Rd.loadB 0 rfl rfl rfl (by kernel_rfl) ap_nil) ?_
  refine SWl.rd rfl (Rd.lenR (e := 28) rfl (by kernel_rfl)) ?_
  refine SWl.rd rfl (Rd.move rfl) ?_
  refine SWl.nil ?_
  refine SN.then ?_
  refine SW.block ?_
  refine SW.loop (ι := {s : Nat × List Dg × Vst // s.1 ≤ p.length ∧ s.2.1.map (·.1) = p.take s.1}) (fun s => St.ob [(4, isD (.slice s.1.2.2.A (s.1.2.1).length s.1.2.2.c)), (12, lsD encL p), (13, iD (p.length : Int)), (14, iD (s.1.1 : Int))] [.r s.1.2.2.F (vecT 79 32 encG s.1.2.2.A s.1.2.2.c (s.1.2.1))]) (fun s => p.length - s.1.1) (⟨(0, [], ⟨some ⟨g10, 0, none⟩, p.length, [g10]⟩), by simp⟩) ?_ ?_
  · exact ⟨⟨_, rfl, ⟨⟨_, rfl, Le.refl _⟩, ⟨⟨_, rfl, Le.refl _⟩, ⟨⟨_, rfl, Le.refl _⟩, ⟨⟨_, rfl, Le.refl _⟩, trivial⟩⟩⟩⟩⟩, [1], by decide, ⟨⟨_, rfl, LeR.refl _⟩, trivial⟩⟩
  · rintro ⟨⟨i, qs, v⟩, hi, hqs⟩ K0 hK0
    dsimp only at hi hqs ⊢
    refine SW.seq ?_
    refine SW.region ?_
    refine SWl.rd rfl (Rd.lss rfl rfl) ?_
    refine SWl.nil ?_
    refine SN.then ?_
    refine SW.seq ?_
    refine SW.cond rfl (fun hb15 => ?_) (fun hb15 => ?_)
    · have hb15 := of_decide_eq_true hb15
      refine SW.skip ?_
      refine SN.then ?_
      refine SW.seq ?_
      refine SW.block ?_
      refine SW.seq ?_
      refine SW.region ?_
      obtain ⟨x, hx⟩ : ∃ x, p[i]? = some x := ⟨_, List.getElem?_eq_getElem (by omega)⟩
      have hql : qs.length = i := by have := congrArg List.length hqs; simp at this; omega
      refine SWl.rd rfl (Rd.idxL (e := 28) 1 rfl rfl (by kernel_rfl) (by kernel_rfl) (by omega) (by simpa using hx)) ?_
      refine SWl.rd rfl (Rd.loadR rfl rfl (by kernel_rfl) (by simp)) ?_
      refine SWl.rd rfl (Rd.assign rfl) ?_
      refine SWl.nil ?_
      refine SN.then ?_
      refine SW.seq ?_
      refine SW.seq ?_
      refine SW.region ?_
      refine SWl.rd rfl (Rd.move rfl) ?_
      refine SWl.rd rfl (Rd.len (e := 5) rfl (by kernel_rfl)) ?_
      refine SWl.rd rfl (Rd.nei rfl rfl) ?_
      refine SWl.nil ?_
      refine SN.then ?_
      refine SW.cond rfl (fun hb20 => ?_) (fun hb20 => ?_)
      · have hxl : x.length ≠ 32 := by simp at hb20; omega
        refine SW.seq ?_
        refine SW.region ?_
        refine SWl.rd rfl (Rd.assign rfl) ?_
        refine SWl.rd rfl (Rd.assign rfl) ?_
        refine SWl.nil ?_
        refine SN.then ?_
        refine SW.ret (fn := Tryd.f55) (fun _ _ h => h) (Rs.le (Rs.two rfl (ResV.tmp rfl) (ResV.tmp rfl)) ?_)
        cases res with
        | none => exact Le.tup ⟨le_nil_ls, Le.refl _, trivial⟩
        | some q => exact absurd (by have hm := List.mem_of_getElem? hx; rw [← hres] at hm; obtain ⟨y, hy, rfl⟩ := List.mem_map.1 hm; exact y.2) hxl
      · have hxl : x.length = 32 := by simp at hb20; omega
        refine SW.skip ?_
        refine SN.then ?_
        refine SW.region ?_
        refine SWl.rd rfl (Rd.move rfl) ?_
        refine SWl.rd rfl (Rd.move rfl) ?_
        refine SWl.rd rfl (Rd.toArr (e := 5) 32 rfl (by kernel_rfl) (by decide) (by omega)) ?_
        refine SWl.rd rfl (Rd.loadPG 32 rfl (by kernel_rfl) (by decide) (by first | assumption | (simp; done) | (simp; omega)) (by simp)) ?_
        refine SWl.ef (S := []) (Ef.litR rfl rfl (blsG1 ⟨x, hxl⟩) rfl) ?_
        rintro _ rfl
        refine SWl.ef (Ef.appT 0 32 32 rfl rfl (SrcT.ls (l := [_]) rfl) (by kernel_rfl) (by kernel_rfl) (by simp; omega) (by decide) (fun _ h => h) rfl) ?_
        rintro _ ⟨A26, F26, c26, rfl⟩
        refine SWl.rd rfl (Rd.assign rfl) ?_
        refine SWl.nil ?_
        refine SN.block ?_
        refine SN.then ?_
        refine SW.region ?_
        refine SWl.rd rfl (Rd.add rfl rfl ⟨by omega, by omega⟩) ?_
        refine SWl.rd rfl (Rd.move rfl) ?_
        refine SWl.nil ?_
        exact fun a w hh => hK0 (⟨(i + 1, qs ++ [⟨x, hxl⟩], ⟨A26, c26, F26⟩), by simp only; omega, map_snoc hqs hx hxl⟩) (by simp only; omega) a w (hh.sub (⟨⟨_, rfl, ⟨⟨_, rfl, Le.refl _⟩, ⟨⟨_, rfl, Le.refl _⟩, ⟨⟨_, rfl, Le.refl _⟩, ⟨⟨_, rfl, Le.refl _⟩, trivial⟩⟩⟩⟩⟩, [0], by decide, ⟨⟨_, rfl, LeR.refl _⟩, trivial⟩⟩))
    · have hb15 := of_decide_eq_false hb15
      refine SW.exit' ?_
      repeat (first | refine SE.then ?_ | refine SE.skip (by decide) ?_)
      refine SE.here ?_
      refine SN.then ?_
      refine SW.seq ?_
      refine SW.region ?_
      refine SWl.rd rfl (Rd.move rfl) ?_
      refine SWl.rd rfl (Rd.assign rfl) ?_
      refine SWl.rd rfl (Rd.assign rfl) ?_
      refine SWl.nil ?_
      refine SN.then ?_
      refine SW.freezeT 0 2 rfl rfl (Le.refl _) ?_
      refine SW.ret (fn := Tryd.f55) (fun _ _ h => h) (Rs.le (Rs.two rfl (ResV.tmp rfl) (ResV.tmp rfl)) ?_)
      have hqp : qs.map (·.1) = p := by rw [hqs, List.take_of_length_le (by omega)]
      cases res with
      | none => obtain ⟨d, hd, h⟩ := hres; rw [← hqp] at hd; obtain ⟨y, hy, rfl⟩ := List.mem_map.1 hd; exact absurd y.2 h
      | some q => obtain rfl : qs = q := dg_inj (by rw [hqp, hres]); exact Le.refl _
end Sx
end Go.Proofs.YtonjpfpdpfonnaaDoor
