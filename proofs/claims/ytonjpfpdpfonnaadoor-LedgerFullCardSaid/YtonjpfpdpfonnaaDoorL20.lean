/-
  LEDGERS: the reference's Decode; encodings and back.
-/
import Derived.Test.YtonjpfpdpfonnaaDoorL19
namespace Go.Proofs.YtonjpfpdpfonnaaDoor
open Go.RowKit
namespace Sx
theorem dec1_enc {e : Led.Ent} (hf : Led.Ent.fit e) (r : List UInt8) {c : Nat} (hc : c < 4096) : Led.dec1 (encF e ++ r) c = .ok (e, r) := by
  obtain ⟨k, b⟩ := e
  obtain ⟨h1, h2, h3⟩ := hf
  simp only at h1 h2 h3
  have e0 : encF ⟨k, b⟩ ++ r = UInt8.ofNat k.toNat :: UInt8.ofNat (b.length / 16777216) :: UInt8.ofNat (b.length / 65536) :: UInt8.ofNat (b.length / 256) :: UInt8.ofNat b.length :: (b ++ r) := by simp [encF, be4]
  have hr : Led.rd4 (encF ⟨k, b⟩ ++ r) = b.length := by
    rw [e0]
    simp only [Led.rd4, List.getD_cons_succ, List.getD_cons_zero, UInt8.toNat_ofNat']
    omega
  have hl : (encF ⟨k, b⟩ ++ r).length = b.length + r.length + 5 := by rw [e0]; simp
  rw [Led.dec1_ok (by omega) (by omega) (by omega) (by omega), hr, e0, Led.take5, Led.drop5]
  simp only [List.getD_cons_zero, UInt8.toNat_ofNat', List.take_left, List.drop_left]
  have : ((k.toNat % 2 ^ 8 : Nat) : Int) = k := by omega
  rw [this]
theorem decF_enc : ∀ (es : List Led.Ent) (es0 : List Led.Ent) (r : List UInt8) (n : Nat), (∀ e ∈ es, Led.Ent.fit e) → es0.length + es.length ≤ 4096 → (encAll es ++ r).length ≤ n → ∃ m, r.length ≤ m ∧ Led.decF n es0 (encAll es ++ r) = Led.decF m (es0 ++ es) r
  | [], es0, r, n, _, _, h => ⟨n, by simpa [encAll] using h, by simp [encAll]⟩
  | e :: es, es0, r, n, hv, hl, h => by
    have he : encAll (e :: es) ++ r = encF e ++ (encAll es ++ r) := by simp [encAll]
    rw [he] at h ⊢
    have h5 : 5 ≤ (encF e ++ (encAll es ++ r)).length := by simp [encF, be4] <;> omega
    have hne : encF e ++ (encAll es ++ r) ≠ [] := by intro e0; rw [e0] at h5; simp at h5
    obtain ⟨m, rfl⟩ : ∃ m, n = m + 1 := ⟨n - 1, by omega⟩
    simp only [List.length_cons] at hl
    rw [Led.decF_step hne, dec1_enc (hv e (by simp)) _ (by omega)]
    have h6 : (encF e).length ≥ 5 := by simp [encF, be4]
    obtain ⟨q, h7, h8⟩ := decF_enc es (es0 ++ [e]) r m (fun x hx => hv x (by simp [hx])) (by simp; omega) (by simp only [List.length_append] at h ⊢; omega)
    exact ⟨q, h7, by rw [show es0 ++ e :: es = (es0 ++ [e]) ++ es by simp]; exact h8⟩
/-- Decode inverts Encode. -/
theorem decs_enc {es : List Led.Ent} (hv : ∀ e ∈ es, Led.Ent.fit e) (hl : es.length ≤ 4096) : Led.decs (encAll es) = .ok es := by
  obtain ⟨m, _, h⟩ := decF_enc es [] [] (encAll es).length hv (by simpa using hl) (by simp)
  rw [List.append_nil] at h
  unfold Led.decs
  rw [h, Led.decF_nil]
  simp
theorem decs_full {es : List Led.Ent} (hv : ∀ e ∈ es, Led.Ent.fit e) (hl : es.length = 4096) {r : List UInt8} (hr : r ≠ []) : Led.decs (encAll es ++ r) = .error 7 := by
  obtain ⟨m, h1, h⟩ := decF_enc es [] r (encAll es ++ r).length hv (by simp [hl]) (Nat.le_refl _)
  unfold Led.decs
  rw [h]
  exact decF_err hr h1 (Led.dec1_full (by simp [hl]))
theorem dec1_code {b : List UInt8} {c : Nat} {k : Int} (h : Led.dec1 b c = .error k) : k = 7 ∨ k = 4 ∨ k = 6 := by
  by_cases h1 : 4096 ≤ c
  · rw [Led.dec1_full h1] at h; injection h with h; exact .inl h.symm
  by_cases h2 : b.length < 5
  · rw [Led.dec1_short h1 h2] at h; injection h with h; exact .inr (.inl h.symm)
  by_cases h3 : 65536 < Led.rd4 b
  · rw [Led.dec1_form h1 h2 h3] at h; injection h with h; exact .inr (.inr h.symm)
  by_cases h4 : b.length < 5 + Led.rd4 b
  · rw [Led.dec1_short2 h1 h2 h3 h4] at h; injection h with h; exact .inr (.inl h.symm)
  rw [Led.dec1_ok h1 h2 h3 h4] at h; cases h
theorem decF_code : ∀ (n : Nat) (es : List Led.Ent) (b : List UInt8) (k : Int), Led.decF n es b = .error k → k = 7 ∨ k = 4 ∨ k = 6
  | 0, _, _, _, h => by cases h
  | n + 1, es, b, k, h => by
    by_cases hb : b = []
    · subst hb; rw [Led.decF_nil] at h; cases h
    · rw [Led.decF_step hb] at h
      cases hd : Led.dec1 b es.length with
      | error q => rw [hd] at h; injection h with h; subst h; exact dec1_code hd
      | ok q => obtain ⟨e, r⟩ := q; rw [hd] at h; exact decF_code n _ _ _ h
theorem decs_code {b : List UInt8} {k : Int} (h : Led.decs b = .error k) : k = 7 ∨ k = 4 ∨ k = 6 := decF_code _ _ _ _ h
set_option maxHeartbeats 4000000 in
set_option maxRecDepth 100000 in
theorem con_decodeR (b : List UInt8) (hb : b.length ≤ 9223372036854775807) (res : Except Int (List Led.Ent)) (hres : Led.decs b = res) : Con Tryd.prog 26 [bD b] (match res with | .ok es => tupD [lsD encE es, iD 0] | .error k => tupD [lsD encE [], iD k]) := by
  refine con_of Tryd.func26 (by kernel_rfl) rfl (by kernel_rfl) fun base w0 => ?_
  refine SW.seq ?_
  refine SW.region ?_
  refine SWl.rd rfl (Rd.assign rfl) ?_
  refine SWl.rd rfl (Rd.assign rfl) ?_
  refine SWl.nil ?_
  refine SN.then ?_
  refine SW.seq ?_
  refine SW.region ?_
  refine SWl.rd rfl (Rd.assign rfl) ?_
  refine SWl.nil ?_
  refine SN.then ?_
  refine SW.seq ?_
  refine SW.block ?_
  refine SW.vecN 44 2 encE ?_
  refine SW.loop (ι := {p : List Led.Ent × List UInt8 × Vst // DInv b p.1 p.2.1}) (fun p => St.ob [(0, bD p.1.2.1), (4, isD (.slice p.1.2.2.A (p.1.1).length p.1.2.2.c))] [.r p.1.2.2.F (vecT 44 2 encE p.1.2.2.A p.1.2.2.c (p.1.1))]) (fun p => p.1.2.1.length) (⟨([], b, ⟨none, 0, []⟩), DInv.start b⟩) ?_ ?_
  · exact ⟨⟨_, rfl, ⟨⟨_, rfl, Le.refl _⟩, ⟨⟨_, rfl, Le.refl _⟩, trivial⟩⟩⟩, [0], by decide, ⟨⟨_, rfl, LeR.refl _⟩, trivial⟩⟩
  · rintro ⟨⟨es, r, v⟩, hI⟩ K0 hK0
    dsimp only at hI ⊢
    have hrl := hI.len
    have hel := hI.1
    refine SW.seq ?_
    refine SW.seq ?_
    refine SW.region ?_
    refine SWl.rd rfl (Rd.move rfl) ?_
    refine SWl.rd rfl (Rd.len (e := 5) rfl (by kernel_rfl)) ?_
    refine SWl.rd rfl (Rd.gtr rfl rfl) ?_
    refine SWl.nil ?_
    refine SN.then ?_
    refine SW.cond rfl (fun hb8 => ?_) (fun hb8 => ?_)
    · have hne : r ≠ [] := by rintro rfl; simp at hb8
      refine SW.skip ?_
      refine SN.then ?_
      refine SW.block ?_
      refine SW.seq ?_
      refine SW.seq ?_
      refine SW.region ?_
      refine SWl.rd rfl (Rd.move rfl) ?_
      refine SWl.rd rfl (Rd.lenE (e := 44) rfl (by kernel_rfl)) ?_
      refine SWl.rd rfl (Rd.geq rfl rfl) ?_
      refine SWl.nil ?_
      refine SN.then ?_
      refine SW.cond rfl (fun hb11 => ?_) (fun hb11 => ?_)
      · have h1 : 4096 ≤ es.length := by have := of_decide_eq_true hb11; omega
        refine SW.seq ?_
        refine SW.region ?_
        refine SWl.rd rfl (Rd.assign rfl) ?_
        refine SWl.rd rfl (Rd.assign rfl) ?_
        refine SWl.nil ?_
        refine SN.then ?_
        refine SW.ret (fn := Tryd.f26) (fun _ _ h => h) (Rs.le (Rs.two rfl (ResV.tmp rfl) (ResV.tmp rfl)) ?_)
        obtain rfl : res = .error 7 := by rw [← hres]; exact hI.err hne (Led.dec1_full h1)
        exact Le.tup ⟨le_nil_ls, Le.refl _, trivial⟩
      · have h1 : ¬ 4096 ≤ es.length := by have := of_decide_eq_false hb11; omega
        refine SW.skip ?_
        refine SN.then ?_
        refine SW.seq ?_
        refine SW.seq ?_
        refine SW.region ?_
        refine SWl.rd rfl (Rd.move rfl) ?_
        refine SWl.rd rfl (Rd.len (e := 5) rfl (by kernel_rfl)) ?_
        refine SWl.rd rfl (Rd.lss rfl rfl) ?_
        refine SWl.nil ?_
        refine SN.then ?_
        refine SW.cond rfl (fun hb14 => ?_) (fun hb14 => ?_)
        · have h2 : r.length < 5 := by simp at hb14; omega
          refine SW.seq ?_
          refine SW.region ?_
          refine SWl.rd rfl (Rd.assign rfl) ?_
          refine SWl.rd rfl (Rd.assign rfl) ?_
          refine SWl.nil ?_
          refine SN.then ?_
          refine SW.ret (fn := Tryd.f26) (fun _ _ h => h) (Rs.le (Rs.two rfl (ResV.tmp rfl) (ResV.tmp rfl)) ?_)
          obtain rfl : res = .error 4 := by rw [← hres]; exact hI.err hne (Led.dec1_short h1 h2)
          exact Le.tup ⟨le_nil_ls, Le.refl _, trivial⟩
        · have h2 : ¬ r.length < 5 := by simp at hb14; omega
          refine SW.skip ?_
          refine SN.then ?_
          refine SW.seq ?_
          have u0 := (r.getD 0 0).toNat_lt
          have u1 := (r.getD 1 0).toNat_lt
          have u2 := (r.getD 2 0).toNat_lt
          have u3 := (r.getD 3 0).toNat_lt
          have u4 := (r.getD 4 0).toNat_lt
          refine SW.draw [] (.r 0 (.r 1 (.r 2 (.r 3 (.r 4 (.r 5 (.r 6 (.r 7 (.r 8 (.r 9 (.r 10 (.r 11 (.r 12 (.r 13 (.r 14 (.r 15 (.r 16 (.r 17 (.r 18 (.r 19 (.r 20 (.r 21 (.r 22 .fin))))))))))))))))))))))) (by kernel_rfl) (by kernel_rfl) (fun d _ _ _ _ h => by cases d <;> exact h) ?_
          refine SWz.rd (i := 0) rfl rfl (Rd.move rfl) ?_
          refine SWz.rd (i := 1) rfl rfl (Rd.idx (e := 5) rfl rfl (by kernel_rfl) (by kernel_rfl) (by decide) (cells_getD (i := 1) (by omega))) ?_
          refine SWz.rd (i := 2) rfl rfl (Rd.loadP rfl (by kernel_rfl) (by simp)) ?_
          refine SWz.rd (i := 3) rfl rfl (Rd.cvW .u8 rfl (by kernel_rfl) (by kernel_rfl) (cv_i64 u1)) ?_
          refine SWz.rd (i := 4) rfl rfl (Rd.mul rfl rfl ⟨by omega, by omega⟩) ?_
          refine SWz.rd (i := 5) rfl rfl (Rd.move rfl) ?_
          refine SWz.rd (i := 6) rfl rfl (Rd.idx (e := 5) rfl rfl (by kernel_rfl) (by kernel_rfl) (by decide) (cells_getD (i := 2) (by omega))) ?_
          refine SWz.rd (i := 7) rfl rfl (Rd.loadP rfl (by kernel_rfl) (by simp)) ?_
          refine SWz.rd (i := 8) rfl rfl (Rd.cvW .u8 rfl (by kernel_rfl) (by kernel_rfl) (cv_i64 u2)) ?_
          refine SWz.rd (i := 9) rfl rfl (Rd.mul rfl rfl ⟨by omega, by omega⟩) ?_
          refine SWz.rd (i := 10) rfl rfl (Rd.add rfl rfl ⟨by omega, by omega⟩) ?_
          refine SWz.rd (i := 11) rfl rfl (Rd.move rfl) ?_
          refine SWz.rd (i := 12) rfl rfl (Rd.idx (e := 5) rfl rfl (by kernel_rfl) (by kernel_rfl) (by decide) (cells_getD (i := 3) (by omega))) ?_
          refine SWz.rd (i := 13) rfl rfl (Rd.loadP rfl (by kernel_rfl) (by simp)) ?_
          refine SWz.rd (i := 14) rfl rfl (Rd.cvW .u8 rfl (by kernel_rfl) (by kernel_rfl) (cv_i64 u3)) ?_
          refine SWz.rd (i := 15) rfl rfl (Rd.mul rfl rfl ⟨by omega, by omega⟩) ?_
          refine SWz.rd (i := 16) rfl rfl (Rd.add rfl rfl ⟨by omega, by omega⟩) ?_
          refine SWz.rd (i := 17) rfl rfl (Rd.move rfl) ?_
          refine SWz.rd (i := 18) rfl rfl (Rd.idx (e := 5) rfl rfl (by kernel_rfl) (by kernel_rfl) (by decide) (cells_getD (i := 4) (by omega))) ?_
          refine SWz.rd (i := 19) rfl rfl (Rd.loadP rfl (by kernel_rfl) (by simp)) ?_
          refine SWz.rd (i := 20) rfl rfl (Rd.cvW .u8 rfl (by kernel_rfl) (by kernel_rfl) (cv_i64 u4)) ?_
          refine SWz.rd (i := 21) rfl rfl (Rd.add rfl rfl ⟨by omega, by omega⟩) ?_
          refine SWz.rd (i := 22) rfl rfl (Rd.assign rfl) ?_
          refine SWz.nil ?_
          refine SN.then ?_
          refine SW.seq ?_
          refine SW.seq ?_
          refine SW.sub (σ' := St.ob [(0, bD r), (4, isD (.slice v.A (es).length v.c)), (5, iD (Led.rd4 r : Int))] [.r v.F (vecT 44 2 encE v.A v.c (es))]) (⟨⟨_, rfl, ⟨⟨_, rfl, Le.refl _⟩, ⟨⟨_, rfl, Le.refl _⟩, ⟨⟨_, rfl, Le.is (by unfold Led.rd4; simp)⟩, trivial⟩⟩⟩⟩, [0], by decide, ⟨⟨_, rfl, LeR.refl _⟩, trivial⟩⟩) ?_
          refine SW.region ?_
          refine SWl.rd rfl (Rd.move rfl) ?_
          refine SWl.rd rfl (Rd.gtr rfl rfl) ?_
          refine SWl.nil ?_
          refine SN.then ?_
          refine SW.cond rfl (fun hb38 => ?_) (fun hb38 => ?_)
          · have h3 : 65536 < Led.rd4 r := by have := of_decide_eq_true hb38; omega
            refine SW.seq ?_
            refine SW.region ?_
            refine SWl.rd rfl (Rd.assign rfl) ?_
            refine SWl.rd rfl (Rd.assign rfl) ?_
            refine SWl.nil ?_
            refine SN.then ?_
            refine SW.ret (fn := Tryd.f26) (fun _ _ h => h) (Rs.le (Rs.two rfl (ResV.tmp rfl) (ResV.tmp rfl)) ?_)
            obtain rfl : res = .error 6 := by rw [← hres]; exact hI.err hne (Led.dec1_form h1 h2 h3)
            exact Le.tup ⟨le_nil_ls, Le.refl _, trivial⟩
          · have h3 : ¬ 65536 < Led.rd4 r := by have := of_decide_eq_false hb38; omega
            refine SW.skip ?_
            refine SN.then ?_
            refine SW.seq ?_
            refine SW.seq ?_
            refine SW.region ?_
            refine SWl.rd rfl (Rd.move rfl) ?_
            refine SWl.rd rfl (Rd.len (e := 5) rfl (by kernel_rfl)) ?_
            refine SWl.rd rfl (Rd.move rfl) ?_
            refine SWl.rd rfl (Rd.add rfl rfl ⟨by omega, by omega⟩) ?_
            refine SWl.rd rfl (Rd.lss rfl rfl) ?_
            refine SWl.nil ?_
            refine SN.then ?_
            refine SW.cond rfl (fun hb43 => ?_) (fun hb43 => ?_)
            · have h4 : r.length < 5 + Led.rd4 r := by simp at hb43; omega
              refine SW.seq ?_
              refine SW.region ?_
              refine SWl.rd rfl (Rd.assign rfl) ?_
              refine SWl.rd rfl (Rd.assign rfl) ?_
              refine SWl.nil ?_
              refine SN.then ?_
              refine SW.ret (fn := Tryd.f26) (fun _ _ h => h) (Rs.le (Rs.two rfl (ResV.tmp rfl) (ResV.tmp rfl)) ?_)
              obtain rfl : res = .error 4 := by rw [← hres]; exact hI.err hne (Led.dec1_short2 h1 h2 h3 h4)
              exact Le.tup ⟨le_nil_ls, Le.refl _, trivial⟩
            · have h4 : ¬ r.length < 5 + Led.rd4 r := by simp at hb43; omega
              refine SW.skip ?_
              refine SN.then ?_
              refine SW.seq ?_
              refine SW.draw (v.F ++ []) (.r 0 (.r 1 (.r 2 (.r 3 (.r 4 (.r 5 (.r 6 (.r 7 (.r 8 (.r 9 (.n 10 (.e 11 (.r 12 .fin) .no) .no))))))))))) (by kernel_rfl) (by kernel_rfl) (fun d _ _ _ _ h => by cases d <;> exact h) ?_
              refine SWz.rd (i := 0) rfl rfl (Rd.move rfl) ?_
              refine SWz.rd (i := 1) rfl rfl (Rd.move rfl) ?_
              refine SWz.rd (i := 2) rfl rfl (Rd.idx (e := 5) rfl rfl (by kernel_rfl) (by kernel_rfl) (by decide) (cells_getD (i := 0) (by omega))) ?_
              refine SWz.rd (i := 3) rfl rfl (Rd.loadP rfl (by kernel_rfl) (ins_app (j := 0) rfl ins_nil)) ?_
              refine SWz.rd (i := 4) rfl rfl (Rd.cvW .u8 rfl (by kernel_rfl) (by kernel_rfl) (cv_i64 (r.getD 0 0).toNat_lt)) ?_
              refine SWz.rd (i := 5) rfl rfl (Rd.move rfl) ?_
              refine SWz.rd (i := 6) rfl rfl (Rd.move rfl) ?_
              refine SWz.rd (i := 7) rfl rfl (Rd.add rfl rfl ⟨by omega, by omega⟩) ?_
              refine SWz.rd (i := 8) rfl rfl (Rd.mono (Rd.slD2 (e := 5) (enc := encB) (lo := 5) (hi := 5 + Led.rd4 r) 1 rfl (le_b_ls _) rfl rfl (by kernel_rfl) (by kernel_rfl) (by omega) (by omega)) (le_ls_b _)) ?_
              refine SWz.rd (i := 9) rfl rfl (Rd.build rfl rfl bldE2) ?_
              refine SWz.efn (i := 10) rfl (Ef.litR rfl rfl (blsE1 ((r.getD 0 0).toNat : Int) ((r.take (5 + Led.rd4 r)).drop 5)) rfl) ?_ SWz.no
              rintro _ rfl
              refine SWz.efe (i := 11) rfl (Ef.appT 0 2 32 rfl rfl (SrcT.ls (l := [_]) rfl) (by kernel_rfl) (by kernel_rfl) (by simp; omega) (by decide) (fun _ h => List.mem_append_left _ h) rfl) ?_ SWz.no
              rintro _ ⟨A55, F55, c55, rfl⟩
              refine SWz.rd (i := 12) rfl rfl (Rd.assign rfl) ?_
              refine SWz.nil ?_
              refine SN.then ?_
              refine SW.region ?_
              refine SWl.rd rfl (Rd.move rfl) ?_
              refine SWl.rd rfl (Rd.move rfl) ?_
              refine SWl.rd rfl (Rd.add rfl rfl ⟨by omega, by omega⟩) ?_
              refine SWl.rd rfl (Rd.mono (Rd.slD1 (e := 5) (enc := encB) (lo := 5 + Led.rd4 r) 1 rfl (le_b_ls _) rfl (by kernel_rfl) (by kernel_rfl) (by omega)) (le_ls_b _)) ?_
              refine SWl.rd rfl (Rd.assign rfl) ?_
              refine SWl.nil ?_
              refine SN.block ?_
              exact fun a w hh => hK0 (⟨(es ++ [⟨((r.getD 0 0).toNat : Int), (r.take (5 + Led.rd4 r)).drop 5⟩], r.drop (5 + Led.rd4 r), ⟨A55, c55, F55⟩), hI.next hne (Led.dec1_ok h1 h2 h3 h4)⟩) (by have := dec1_len (Led.dec1_ok h1 h2 h3 h4); simp only; omega) a w (hh.sub (⟨⟨_, rfl, ⟨⟨_, rfl, Le.refl _⟩, ⟨⟨_, rfl, Le.refl _⟩, trivial⟩⟩⟩, [0], by decide, ⟨⟨_, rfl, LeR.refl _⟩, trivial⟩⟩))
    · have hr0 : r = [] := List.eq_nil_of_length_eq_zero (by simp at hb8; simp [hb8])
      refine SW.exit' ?_
      repeat (first | refine SE.then ?_ | refine SE.skip (by decide) ?_)
      refine SE.here ?_
      refine SN.then ?_
      refine SW.seq ?_
      refine SW.region ?_
      refine SWl.rd rfl (Rd.move rfl) ?_
      refine SWl.rd rfl (Rd.assign rfl) ?_
      refine SWl.rd rfl (Rd.assign rfl) ?_
      refine SWl.nil ?_
      refine SN.then ?_
      refine SW.freezeT 0 2 rfl rfl (Le.refl _) ?_
      refine SW.ret (fn := Tryd.f26) (fun _ _ h => h) (Rs.le (Rs.two rfl (ResV.tmp rfl) (ResV.tmp rfl)) ?_)
      obtain rfl : res = .ok es := by rw [← hres]; exact hI.fin hr0
      exact Le.refl _
end Sx
end Go.Proofs.YtonjpfpdpfonnaaDoor
