/-
  LEDGERS: Decode.
-/
import Derived.Test.YtonjpfpdpfonnaaDoorL18
namespace Go.Proofs.YtonjpfpdpfonnaaDoor
open Go.RowKit
namespace Sx
theorem decF_err {n : Nat} {es : List Led.Ent} {r : List UInt8} {k : Int} (hne : r ≠ []) (hle : r.length ≤ n) (hd : Led.dec1 r es.length = .error k) : Led.decF n es r = .error k := by
  have : 0 < r.length := List.length_pos_iff.2 hne
  obtain ⟨m, rfl⟩ : ∃ m, n = m + 1 := ⟨n - 1, by omega⟩
  rw [Led.decF_step hne, hd]
theorem dec1_len {r r2 : List UInt8} {c : Nat} {e : Led.Ent} (hd : Led.dec1 r c = .ok (e, r2)) : r2.length + 5 ≤ r.length := by
  have := (Led.dec1_spec hd).2.2
  have h2 := congrArg List.length this
  simp [encF, be4] at h2
  omega
theorem decF_more {n : Nat} {es : List Led.Ent} {r r2 : List UInt8} {e : Led.Ent} (hne : r ≠ []) (hle : r.length ≤ n) (hd : Led.dec1 r es.length = .ok (e, r2)) : ∃ m, Led.decF n es r = Led.decF m (es ++ [e]) r2 ∧ r2.length ≤ m := by
  have h0 : 0 < r.length := List.length_pos_iff.2 hne
  obtain ⟨m, rfl⟩ : ∃ m, n = m + 1 := ⟨n - 1, by omega⟩
  have := dec1_len hd
  exact ⟨m, by rw [Led.decF_step hne, hd], by omega⟩
/-- While an encoding is read. -/
def DInv (b : List UInt8) (es : List Led.Ent) (r : List UInt8) : Prop := es.length ≤ 4096 ∧ (∀ e ∈ es, Led.Ent.fit e) ∧ b = encAll es ++ r ∧ ∃ n, r.length ≤ n ∧ Led.decs b = Led.decF n es r
theorem DInv.start (b : List UInt8) : DInv b [] b := ⟨by simp, by simp, rfl, b.length, Nat.le_refl _, rfl⟩
theorem DInv.err {b r : List UInt8} {es : List Led.Ent} {k : Int} (h : DInv b es r) (hne : r ≠ []) (hd : Led.dec1 r es.length = .error k) : Led.decs b = .error k := by
  obtain ⟨_, _, _, n, h4, h5⟩ := h
  rw [h5, decF_err hne h4 hd]
theorem DInv.fin {b r : List UInt8} {es : List Led.Ent} (h : DInv b es r) (hr : r = []) : Led.decs b = .ok es := by
  obtain ⟨_, _, _, n, h4, h5⟩ := h
  rw [h5, hr, Led.decF_nil]
theorem DInv.next {b r r2 : List UInt8} {es : List Led.Ent} {e : Led.Ent} (h : DInv b es r) (hne : r ≠ []) (hd : Led.dec1 r es.length = .ok (e, r2)) : DInv b (es ++ [e]) r2 := by
  obtain ⟨h1, h2, h3, n, h4, h5⟩ := h
  obtain ⟨h6, h7, h8⟩ := Led.dec1_spec hd
  obtain ⟨m, h9, h10⟩ := decF_more hne h4 hd
  refine ⟨by simp; omega, fun x hx => ?_, ?_, m, h10, by rw [h5, h9]⟩
  · rcases List.mem_append.1 hx with hx | hx
    · exact h2 x hx
    · rw [List.mem_singleton.1 hx]; exact h7
  · rw [h3, h8]
    simp [encAll]
theorem DInv.len {b r : List UInt8} {es : List Led.Ent} (h : DInv b es r) : r.length ≤ b.length := by
  rw [h.2.2.1]; simp
abbrev ledX (g : Nat) (s : Lst) (es : List Led.Ent) : List Box := [ledC g s es, ledE s es, ledM s es]
set_option maxHeartbeats 4000000 in
set_option maxRecDepth 100000 in
theorem con_decode (b : List UInt8) (hb : b.length ≤ 9223372036854775807) (res : Except Int (List Led.Ent)) (hres : Led.decs b = res) : ConR Tryd.prog 25 [] [bD b] (fun t : Nat × Lst => match res with | .ok es => ledX t.1 t.2 es | .error _ => []) (fun t : Nat × Lst => match res with | .ok _ => tupD [isD (.pointer (some ⟨t.1, 0, none⟩)), iD 0] | .error k => tupD [isD (.pointer none), iD k]) := by
  refine con_ofRD Tryd.func25 (by kernel_rfl) rfl (by kernel_rfl) fun base w0 => ?_
  refine SW.seq ?_
  refine SW.region ?_
  refine SWl.ef (S := []) (Ef.alloc (zs := [.pointer none]) (by kernel_rfl) rfl) ?_
  rintro _ ⟨g2, rfl⟩
  refine SWl.ef (S := []) (Ef.alloc (zs := [.int .i64 0]) (by kernel_rfl) rfl) ?_
  rintro _ ⟨g3, rfl⟩
  refine SWl.nil ?_
  refine SN.then ?_
  refine SW.seq ?_
  refine SW.region ?_
  refine SWl.rd rfl (Rd.makeFunc [.pointer (some ⟨g2, 0, none⟩), .pointer (some ⟨g3, 0, none⟩)] rfl) ?_
  refine SWl.defer (cap := [.pointer (some ⟨g2, 0, none⟩), .pointer (some ⟨g3, 0, none⟩)]) rfl ?_
  refine SWl.nil ?_
  refine SN.then ?_
  refine SW.seq ?_
  refine SW.region ?_
  refine SWl.ef (S := []) (Ef.alloc (zs := [.slice none 0 0, .map none]) (by kernel_rfl) rfl) ?_
  rintro _ ⟨g6, rfl⟩
  refine SWl.ef (S := [_]) (Ef.storeV 0 rfl rfl rfl (by kernel_rfl) rfl (List.mem_singleton.2 rfl)) ?_
  rintro _ rfl
  refine SWl.nil ?_
  refine SN.then ?_
  refine SW.seq ?_
  refine SW.block ?_
  refine SW.vecN 44 2 encE ?_
  refine SW.mapN encN ?_
  refine SW.loop (ι := {p : List Led.Ent × List UInt8 × Lst // DInv b p.1 p.2.1}) (fun p => St.ob [(0, bD p.1.2.1), (2, isD (.pointer (some ⟨g2, 0, none⟩))), (3, isD (.pointer (some ⟨g3, 0, none⟩)))] [.c g2 [isD (.pointer (some ⟨g6, 0, none⟩))], .c g3 [iD 0], .c g6 [isD (.slice p.1.2.2.A (p.1.1).length p.1.2.2.c), isD (.map p.1.2.2.M)], ledE p.1.2.2 (p.1.1), ledM p.1.2.2 (p.1.1)]) (fun p => p.1.2.1.length) (⟨([], b, ⟨none, 0, [], none, []⟩), DInv.start b⟩) ?_ ?_
  · exact ⟨⟨_, rfl, ⟨⟨_, rfl, Le.refl _⟩, ⟨⟨_, rfl, Le.refl _⟩, ⟨⟨_, rfl, Le.refl _⟩, trivial⟩⟩⟩⟩, [0, 1, 2, 3, 4], by decide, ⟨⟨_, rfl, LeAll.refl _⟩, ⟨⟨_, rfl, LeAll.refl _⟩, ⟨⟨_, rfl, LeAll.refl _⟩, ⟨⟨_, rfl, LeR.refl _⟩, ⟨⟨_, rfl, LeR.refl _⟩, trivial⟩⟩⟩⟩⟩⟩
  · rintro ⟨⟨es, r, s⟩, hI⟩ K0 hK0
    dsimp only at hI ⊢
    have hrl := hI.len
    have hel := hI.1
    refine SW.seq ?_
    refine SW.seq ?_
    refine SW.region ?_
    refine SWl.rd rfl (Rd.move rfl) ?_
    refine SWl.rd rfl (Rd.len (e := 5) rfl (by kernel_rfl)) ?_
    refine SWl.rd rfl (Rd.gtr rfl rfl) ?_
    refine SWl.nil ?_
    refine SN.then ?_
    refine SW.cond rfl (fun hb9 => ?_) (fun hb9 => ?_)
    · have hne : r ≠ [] := by rintro rfl; simp at hb9
      refine SW.skip ?_
      refine SN.then ?_
      refine SW.block ?_
      refine SW.seq ?_
      refine SW.region ?_
      refine SWl.ef (S := []) (Ef.alloc (zs := [.int .i64 0, .slice none 0 0]) (by kernel_rfl) rfl) ?_
      rintro _ ⟨g4, rfl⟩
      refine SWl.nil ?_
      refine SN.then ?_
      refine SW.seq ?_
      refine SW.region ?_
      refine SWl.rd rfl (Rd.move rfl) ?_
      refine SWl.rd rfl (Rd.loadB 0 rfl rfl rfl (by kernel_rfl) ap_nil) ?_
      refine SWl.rd rfl (Rd.nilCheck rfl) ?_
      refine SWl.rd rfl (Rd.fieldAddr (n := 0) rfl (by kernel_rfl)) ?_
      refine SWl.rd rfl (Rd.loadB 2 rfl rfl rfl (by kernel_rfl) ap_nil) ?_
      refine SWl.rd rfl (Rd.lenE (e := 44) rfl (by kernel_rfl)) ?_
      rcases hd : Led.dec1 r es.length with k | ⟨e, r2⟩
      · refine SWl.callP (con_next_err r es.length k (by omega) hd) rfl ⟨Le.refl _, Le.refl _, trivial⟩ ?_
        repeat (first | refine SP.then ?_ | refine SP.block ?_)
        refine SP.retL ?_
        obtain rfl : res = .error k := by rw [← hres]; exact hI.err hne hd
        refine RL.defer (cap := [.pointer (some ⟨g2, 0, none⟩), .pointer (some ⟨g3, 0, none⟩)]) [0, 1] (by simp) (con_dec_pan g2 g3 (some ⟨g6, 0, none⟩) 0 k) (by decide) ⟨⟨_, rfl, LeAll.refl _⟩, ⟨_, rfl, LeAll.refl _⟩, trivial⟩ ?_
        refine RL.fin (((0, ⟨none, 0, [], none, []⟩) : Nat × Lst)) [] (Rs.le (Rs.two rfl (ResV.cellV 4 rfl rfl (by kernel_rfl) rfl) (ResV.cellV 5 rfl rfl (by kernel_rfl) rfl)) ?_) (by decide) trivial
        exact Le.refl _
      · skip
        refine SWl.ef (S := []) (Ef.call (con_next r es.length (by omega) e r2 hd) rfl ⟨Le.refl _, Le.refl _, trivial⟩ rfl) ?_
        rintro _ rfl
        refine SWl.rd rfl (Rd.move rfl) ?_
        refine SWl.rd rfl (Rd.extract rfl rfl) ?_
        refine SWl.rd rfl (Rd.extract rfl rfl) ?_
        refine SWl.ef (S := [_]) (Ef.storeA 5 rfl rfl rfl (by kernel_rfl) rfl (List.mem_singleton.2 rfl)) ?_
        rintro _ rfl
        refine SWl.rd rfl (Rd.assign rfl) ?_
        refine SWl.nil ?_
        refine SN.then ?_
        refine SW.region ?_
        refine SWl.rd rfl (Rd.loadB 0 rfl rfl rfl (by kernel_rfl) ap_nil) ?_
        refine SWl.rd rfl (Rd.loadA 5 2 rfl rfl (by kernel_rfl) rfl ap_nil) ?_
        refine SWl.lookE 21 rfl fun A21 c21 => ?_
        refine SWl.ef (Ef.callR [2, 3, 4, 6] (con_push g6 s es _ e.kind e.bytes A21 c21 [] _ (isView_viewB _ _ _ _ rfl) (by have := (Led.dec1_spec hd).2.1.2.2; omega) ⟨(Led.dec1_spec hd).2.1.1, (Led.dec1_spec hd).2.1.2.1⟩ (by omega) rfl) rfl ⟨Le.refl _, Le.refl _, trivial⟩ (by decide) ⟨⟨_, rfl, LeAll.refl _⟩, ⟨⟨_, rfl, LeR.refl _⟩, ⟨⟨_, rfl, LeR.refl _⟩, ⟨⟨_, rfl, LeR.refl _⟩, trivial⟩⟩⟩⟩ (fun _ h => h) rfl) ?_
        rintro _ ⟨s22, rfl⟩
        refine SWl.nil ?_
        refine SN.block ?_
        exact fun a w hh => hK0 (⟨(es ++ [e], r2, s22), hI.next hne hd⟩) (by have := dec1_len hd; simp only; omega) a w (hh.sub (⟨⟨_, rfl, ⟨⟨_, rfl, Le.refl _⟩, ⟨⟨_, rfl, Le.refl _⟩, ⟨⟨_, rfl, Le.refl _⟩, trivial⟩⟩⟩⟩, [0, 1, 3, 4, 5], by decide, ⟨⟨_, rfl, LeAll.refl _⟩, ⟨⟨_, rfl, LeAll.refl _⟩, ⟨⟨_, rfl, LeAll.refl _⟩, ⟨⟨_, rfl, LeR.refl _⟩, ⟨⟨_, rfl, LeR.refl _⟩, trivial⟩⟩⟩⟩⟩⟩))
    · have hr0 : r = [] := List.eq_nil_of_length_eq_zero (by simp at hb9; simp [hb9])
      refine SW.exit' ?_
      repeat (first | refine SE.then ?_ | refine SE.skip (by decide) ?_)
      refine SE.here ?_
      refine SN.then ?_
      refine SW.seq ?_
      refine SW.region ?_
      refine SWl.rd rfl (Rd.loadB 0 rfl rfl rfl (by kernel_rfl) ap_nil) ?_
      refine SWl.ef (S := [_]) (Ef.storeV 0 rfl rfl rfl (by kernel_rfl) rfl (List.mem_singleton.2 rfl)) ?_
      rintro _ rfl
      refine SWl.ef (S := [_]) (Ef.storeV 1 rfl rfl rfl (by kernel_rfl) rfl (List.mem_singleton.2 rfl)) ?_
      rintro _ rfl
      refine SWl.nil ?_
      refine SN.then ?_
      refine SW.retL (fun _ _ h => h) ?_
      obtain rfl : res = .ok es := by rw [← hres]; exact hI.fin hr0
      refine RL.defer (cap := [.pointer (some ⟨g2, 0, none⟩), .pointer (some ⟨g3, 0, none⟩)]) [0, 1] (by simp) (con_dec_ret g2 g3 (some ⟨g6, 0, none⟩) 0) (by decide) ⟨⟨_, rfl, LeAll.refl _⟩, ⟨_, rfl, LeAll.refl _⟩, trivial⟩ ?_
      refine RL.fin (((g6, s) : Nat × Lst)) [0, 1, 2] (Rs.le (Rs.two rfl (ResV.cellV 3 rfl rfl (by kernel_rfl) rfl) (ResV.cellV 4 rfl rfl (by kernel_rfl) rfl)) ?_) (by decide) ⟨⟨_, rfl, LeAll.refl _⟩, ⟨⟨_, rfl, LeR.refl _⟩, ⟨⟨_, rfl, LeR.refl _⟩, trivial⟩⟩⟩
      exact Le.refl _
end Sx
end Go.Proofs.YtonjpfpdpfonnaaDoor
