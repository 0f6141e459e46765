/-
  LEDGERS: encodings, Append; few, same.
  LEDGERS: made.
  LEDGERS: the example.
-/
import Derived.Test.YtonjpfpdpfonnaaDoorGY
namespace Go.Proofs.YtonjpfpdpfonnaaDoor
open Go.RowKit
namespace Sx
theorem wrap8 (x : Int) : IntKind.u8.wrap x = x % 256 := by simp [IntKind.wrap, IntKind.signed, IntKind.bits]
theorem encAll_snoc {l : List Led.Ent} {i : Nat} {e : Led.Ent} (h : l[i]? = some e) : encAll (l.take (i + 1)) = encAll (l.take i) ++ [UInt8.ofNat e.kind.toNat, UInt8.ofNat (e.bytes.length / 16777216), UInt8.ofNat (e.bytes.length / 65536), UInt8.ofNat (e.bytes.length / 256), UInt8.ofNat e.bytes.length] ++ e.bytes := by
  rw [take_snoc h]
  simp [encAll, encF, be4]
theorem szs_take {l : List Led.Ent} {i : Nat} {e : Led.Ent} (h : l[i]? = some e) : szs (l.take (i + 1)) = szs (l.take i) + (5 + e.bytes.length) := by rw [take_snoc h, szs_snoc]
theorem szs_tk (l : List Led.Ent) (hv : ∀ e ∈ l, Led.Ent.fit e) (i : Nat) : szs (l.take i) ≤ 65541 * l.length := by
  have h1 := szs_le (l.take i) (fun e he => hv e (List.mem_of_mem_take he))
  have h2 : (l.take i).length ≤ l.length := by simp; omega
  omega
theorem isView_vec {e c : Nat} {A : Option Addr} {b : List UInt8} : IsView (vecT e 1 encB A c b) (.slice A b.length c) (cellsOf b) := fun L F w h => by
  obtain ⟨xs, ha, ho, hF⟩ := h
  have hR : (vecR e 1 A b.length c (b.flatMap encB)).R L F w := ⟨xs, ha, ho, hF⟩
  by_cases h0 : 0 < b.length
  · obtain ⟨g, cur, xs', rfl, hF', hg, hn, hm, hs, htk, hl, hall⟩ := vec_some hR h0
    rw [flat_encB] at hall
    have hx := all_isD hall
    subst hx
    refine ⟨some ⟨g, 0, none⟩, c, by rw [cellsOf_length], by rw [cellsOf_length]; exact hn, fun _ => ⟨g, 0, rfl, (Array.getElem?_eq_some_iff.1 hg).1, fun j hj => ?_⟩, fun _ p hp => ?_⟩
    · rw [cellsOf_length] at hj
      simp only [Nat.mul_one] at htk hs
      have hj2 : j < cur.size := by omega
      have e1 : (cellsOf b)[j]? = cur.toList[j]? := by rw [← htk, List.getElem?_take, if_pos hj]
      simp only [World.cell?, hg, Nat.zero_add]
      rw [e1]
      simp
    · injection hp with hp; subst hp; left; rw [hF']; simp
  · have hb : b = [] := List.eq_nil_of_length_eq_zero (by omega)
    subst hb
    exact ⟨A, c, rfl, Nat.zero_le _, fun h => absurd h (by simp [cellsOf]), fun h => absurd h (by simp [cellsOf])⟩
/-- What Append does. -/
def Led.appE (es : List Led.Ent) (k : Int) (b : List UInt8) : Int := if 0 ≤ k ∧ k ≤ 255 ∧ b.length ≤ 65536 then (if es.length < 4096 then 0 else 7) else 2
def Led.app (es : List Led.Ent) (k : Int) (b : List UInt8) : List Led.Ent := if 0 ≤ k ∧ k ≤ 255 ∧ b.length ≤ 65536 then (if es.length < 4096 then es ++ [⟨k, b⟩] else es) else es
def Led.appI (es : List Led.Ent) (k : Int) (b : List UInt8) : Int := if 0 ≤ k ∧ k ≤ 255 ∧ b.length ≤ 65536 then (if es.length < 4096 then (es.length : Int) else 0) else 0
theorem Led.app_bad {es : List Led.Ent} {k : Int} {b : List UInt8} (h : ¬ (0 ≤ k ∧ k ≤ 255 ∧ b.length ≤ 65536)) : Led.app es k b = es ∧ Led.appE es k b = 2 ∧ Led.appI es k b = 0 := ⟨if_neg h, if_neg h, if_neg h⟩
theorem Led.app_full {es : List Led.Ent} {k : Int} {b : List UInt8} (h : 0 ≤ k ∧ k ≤ 255 ∧ b.length ≤ 65536) (h2 : ¬ es.length < 4096) : Led.app es k b = es ∧ Led.appE es k b = 7 ∧ Led.appI es k b = 0 := ⟨by rw [Led.app, if_pos h, if_neg h2], by rw [Led.appE, if_pos h, if_neg h2], by rw [Led.appI, if_pos h, if_neg h2]⟩
theorem Led.app_ok {es : List Led.Ent} {k : Int} {b : List UInt8} (h : 0 ≤ k ∧ k ≤ 255 ∧ b.length ≤ 65536) (h2 : es.length < 4096) : Led.app es k b = es ++ [⟨k, b⟩] ∧ Led.appE es k b = 0 ∧ Led.appI es k b = es.length := ⟨by rw [Led.app, if_pos h, if_pos h2], by rw [Led.appE, if_pos h, if_pos h2], by rw [Led.appI, if_pos h, if_pos h2]⟩
instance : DecidablePred Led.Ent.fit := fun e => by unfold Led.Ent.fit; infer_instance
def Led.fits (l : List Led.Ent) : List Led.Ent := l.filter (fun e => decide (Led.Ent.fit e))
theorem fits_snoc {l : List Led.Ent} {i : Nat} {e : Led.Ent} (h : l[i]? = some e) : Led.fits (l.take (i + 1)) = if Led.Ent.fit e then Led.fits (l.take i) ++ [e] else Led.fits (l.take i) := by
  rw [take_snoc h]
  unfold Led.fits
  rw [List.filter_append]
  by_cases hf : Led.Ent.fit e <;> simp [hf]
theorem fits_len (l : List Led.Ent) : (Led.fits l).length ≤ l.length := List.length_filter_le _ _
theorem fits_fit {l : List Led.Ent} : ∀ e ∈ Led.fits l, Led.Ent.fit e := fun e he => by simpa using (List.mem_filter.1 he).2
theorem take_all {α : Type} {l : List α} {i : Nat} (h : l.length ≤ i) : l.take i = l := List.take_of_length_le h
theorem Rd.addB {P : Program} {Γ : Cx} {σ : St} {S : List Nat} {dst : Option Tmp} {ty : TypeId} {pos : String} {af : Array Edge} {gd : Option (Nat × Bool)} {x y : Operand} {xT yT : TypeId} {a b : UInt8} (hx : σ.ev x = some (isD (B8 a))) (hy : σ.ev y = some (isD (B8 b))) : Rd P Γ S ⟨dst, .binOp .add xT x y yT, ty, pos, af, gd⟩ σ (isD (B8 (a + b))) := Rd.bin hx hy fun _ => by
  have h : IntKind.u8.wrap ((a.toNat : Int) + (b.toNat : Int)) = ((a + b).toNat : Int) := by rw [wrap8, UInt8.toNat_add]; simp
  simp [eqGuard, binOp, B8, go_sem, h]
instance ones_te (e : Led.Ent) : Ones (List.take 2 (encE e)) := by unfold encE; show Ones [iD _, bD _]; infer_instance
set_option maxHeartbeats 4000000 in
set_option maxRecDepth 100000 in
theorem con_encode (es : List Led.Ent) (hv : ∀ e ∈ es, Led.Ent.fit e) (hn : es.length ≤ 100000) : ConN Tryd.prog 27 [ledD es] (bD (encAll es)) := by
  refine con_ofN Tryd.func27 (by kernel_rfl) rfl (by kernel_rfl) fun base w0 => ?_
  refine SW.seq ?_
  refine SW.region ?_
  refine SWl.rd rfl (Rd.assign rfl) ?_
  refine SWl.nil ?_
  refine SN.then ?_
  refine SW.seq ?_
  refine SW.seq ?_
  refine SW.region ?_
  refine SWl.rd rfl (Rd.move rfl) ?_
  refine SWl.rd rfl (Rd.eqPA rfl rfl (by kernel_rfl)) ?_
  refine SWl.nil ?_
  refine SN.then ?_
  refine SW.condF rfl (rfl) ?_
  refine SW.skip ?_
  refine SN.then ?_
  refine SW.seq ?_
  refine SW.region ?_
  refine SWl.rd rfl (Rd.assign rfl) ?_
  refine SWl.nil ?_
  refine SN.then ?_
  refine SW.seq ?_
  refine SW.seq ?_
  refine SW.region ?_
  refine SWl.rd rfl (Rd.move rfl) ?_
  refine SWl.rd rfl (Rd.nilCheckP rfl) ?_
  refine SWl.rd rfl (Rd.fieldR (n := 0) rfl (by kernel_rfl) (show 0 < 2 by decide)) ?_
  refine SWl.rd rfl (Rd.loadR rfl rfl (by kernel_rfl) (by simp)) ?_
  refine SWl.rd rfl (Rd.lenR (e := 44) rfl (by kernel_rfl)) ?_
  refine SWl.rd rfl (Rd.move rfl) ?_
  refine SWl.nil ?_
  refine SN.then ?_
  refine SW.block ?_
  refine SW.loop (ι := {i : Nat // i ≤ es.length}) (fun i => St.ob [(0, ledD es), (3, iD ((szs (es.take i.1) : Nat) : Int)), (15, lsD encE es), (16, iD (es.length : Int)), (17, iD (i.1 : Int))] []) (fun i => es.length - i.1) (⟨0, by omega⟩) ?_ ?_
  · exact ⟨⟨_, rfl, ⟨⟨_, rfl, Le.refl _⟩, ⟨⟨_, rfl, Le.refl _⟩, ⟨⟨_, rfl, Le.refl _⟩, ⟨⟨_, rfl, Le.refl _⟩, ⟨⟨_, rfl, Le.refl _⟩, trivial⟩⟩⟩⟩⟩⟩, [], by decide, trivial⟩
  · rintro ⟨i, hi⟩ K0 hK0
    dsimp only
    have hs := szs_tk es hv i
    refine SW.seq ?_
    refine SW.region ?_
    refine SWl.rd rfl (Rd.lss rfl rfl) ?_
    refine SWl.nil ?_
    refine SN.then ?_
    refine SW.seq ?_
    refine SW.cond rfl (fun hb18 => ?_) (fun hb18 => ?_)
    · have hb18 := of_decide_eq_true hb18
      refine SW.skip ?_
      refine SN.then ?_
      refine SW.seq ?_
      refine SW.block ?_
      refine SW.seq ?_
      refine SW.region ?_
      obtain ⟨e, he⟩ : ∃ e, es[i]? = some e := ⟨_, List.getElem?_eq_getElem (by omega)⟩
      have hf := hv e (List.mem_of_getElem? he)
      refine SWl.rd rfl (Rd.idxL (e := 44) 2 rfl rfl (by kernel_rfl) (by kernel_rfl) (by omega) (by simpa using he)) ?_
      refine SWl.rd rfl (Rd.loadRA 2 rfl (by kernel_rfl) (by decide) (show 2 ≤ 2 by decide) (by simp)) ?_
      refine SWl.ef (S := []) (Ef.alloc (zs := [.int .i64 0, .slice none 0 0]) (by kernel_rfl) rfl) ?_
      rintro _ ⟨g5, rfl⟩
      refine SWl.ef (S := [_]) (Ef.storeA 0 rfl rfl rfl (by kernel_rfl) rfl (List.mem_singleton.2 rfl)) ?_
      rintro _ rfl
      refine SWl.nil ?_
      refine SN.then ?_
      refine SW.region ?_
      refine SWl.rd rfl (Rd.move rfl) ?_
      refine SWl.rd rfl (Rd.fieldAddr (n := 1) rfl (by kernel_rfl)) ?_
      refine SWl.rd rfl (Rd.loadB 0 rfl rfl rfl (by kernel_rfl) ap_nil) ?_
      refine SWl.rd rfl (Rd.len (e := 5) rfl (by kernel_rfl)) ?_
      refine SWl.rd rfl (Rd.add rfl rfl ⟨by simp; omega, by have := hf.2.2; simp; omega⟩) ?_
      refine SWl.rd rfl (Rd.add rfl rfl ⟨by simp; omega, by have := hf.2.2; simp; omega⟩) ?_
      refine SWl.rd rfl (Rd.assign rfl) ?_
      refine SWl.nil ?_
      refine SN.block ?_
      refine SN.then ?_
      refine SW.region ?_
      refine SWl.rd rfl (Rd.add rfl rfl ⟨by omega, by omega⟩) ?_
      refine SWl.rd rfl (Rd.move rfl) ?_
      refine SWl.nil ?_
      exact fun a w hh => hK0 (⟨i + 1, by omega⟩) (by simp only; omega) a w (hh.sub (⟨⟨_, rfl, ⟨⟨_, rfl, Le.refl _⟩, ⟨⟨_, rfl, Le.is (by rw [szs_take he]; simp)⟩, ⟨⟨_, rfl, Le.refl _⟩, ⟨⟨_, rfl, Le.refl _⟩, ⟨⟨_, rfl, Le.refl _⟩, trivial⟩⟩⟩⟩⟩⟩, [], by decide, trivial⟩))
    · have hb18 := of_decide_eq_false hb18
      refine SW.exit' ?_
      repeat (first | refine SE.then ?_ | refine SE.skip (by decide) ?_)
      refine SE.here ?_
      refine SN.then ?_
      refine SW.seq ?_
      refine SW.region ?_
      refine SWl.rd rfl (Rd.move rfl) ?_
      refine SWl.ef (S := []) (Ef.makeT (e := 5) (c := szs es) encB 1 1 rfl rfl (by kernel_rfl) (by kernel_rfl) (by rw [take_all (by omega)]) (by have := szs_tk es hv es.length; rw [List.take_length] at this; omega) (by decide) rfl) ?_
      rintro _ ⟨g29, rfl⟩
      refine SWl.rd rfl (Rd.assign rfl) ?_
      refine SWl.nil ?_
      refine SN.then ?_
      refine SW.seq ?_
      refine SW.seq ?_
      refine SW.region ?_
      refine SWl.rd rfl (Rd.move rfl) ?_
      refine SWl.rd rfl (Rd.nilCheckP rfl) ?_
      refine SWl.rd rfl (Rd.fieldR (n := 0) rfl (by kernel_rfl) (show 0 < 2 by decide)) ?_
      refine SWl.rd rfl (Rd.loadR rfl rfl (by kernel_rfl) (by simp)) ?_
      refine SWl.rd rfl (Rd.lenR (e := 44) rfl (by kernel_rfl)) ?_
      refine SWl.rd rfl (Rd.move rfl) ?_
      refine SWl.nil ?_
      refine SN.then ?_
      refine SW.block ?_
      refine SW.loop (ι := {p : Nat × Vst // p.1 ≤ es.length}) (fun p => St.ob [(6, isD (.slice p.1.2.A (encAll (es.take p.1.1)).length p.1.2.c)), (33, lsD encE es), (34, iD (es.length : Int)), (35, iD (p.1.1 : Int))] [.r p.1.2.F (vecT 5 1 encB p.1.2.A p.1.2.c (encAll (es.take p.1.1)))]) (fun p => es.length - p.1.1) (⟨(0, ⟨some ⟨g29, 0, none⟩, szs es, [g29]⟩), by simp⟩) ?_ ?_
      · exact ⟨⟨_, rfl, ⟨⟨_, rfl, Le.refl _⟩, ⟨⟨_, rfl, Le.refl _⟩, ⟨⟨_, rfl, Le.refl _⟩, ⟨⟨_, rfl, Le.refl _⟩, trivial⟩⟩⟩⟩⟩, [0], by decide, ⟨⟨_, rfl, LeR.refl _⟩, trivial⟩⟩
      · rintro ⟨⟨j, s⟩, hj⟩ K1 hK1
        dsimp only at hj ⊢
        refine SW.seq ?_
        refine SW.region ?_
        refine SWl.rd rfl (Rd.lss rfl rfl) ?_
        refine SWl.nil ?_
        refine SN.then ?_
        refine SW.seq ?_
        refine SW.cond rfl (fun hb36 => ?_) (fun hb36 => ?_)
        · have hb36 := of_decide_eq_true hb36
          refine SW.skip ?_
          refine SN.then ?_
          refine SW.seq ?_
          refine SW.block ?_
          refine SW.seq ?_
          refine SW.region ?_
          obtain ⟨e, he⟩ : ∃ e, es[j]? = some e := ⟨_, List.getElem?_eq_getElem (by omega)⟩
          have hf := hv e (List.mem_of_getElem? he)
          refine SWl.rd rfl (Rd.idxL (e := 44) 2 rfl rfl (by kernel_rfl) (by kernel_rfl) (by omega) (by simpa using he)) ?_
          refine SWl.rd rfl (Rd.loadRA 2 rfl (by kernel_rfl) (by decide) (show 2 ≤ 2 by decide) (by simp)) ?_
          refine SWl.ef (S := []) (Ef.alloc (zs := [.int .i64 0, .slice none 0 0]) (by kernel_rfl) rfl) ?_
          rintro _ ⟨g8, rfl⟩
          refine SWl.ef (S := [_]) (Ef.storeA 1 rfl rfl rfl (by kernel_rfl) rfl (List.mem_singleton.2 rfl)) ?_
          rintro _ rfl
          refine SWl.nil ?_
          refine SN.then ?_
          refine SW.seq ?_
          refine SW.region ?_
          refine SWl.rd rfl (Rd.fieldAddr (n := 1) rfl (by kernel_rfl)) ?_
          refine SWl.rd rfl (Rd.loadB 1 rfl rfl rfl (by kernel_rfl) ap_nil) ?_
          refine SWl.rd rfl (Rd.len (e := 5) rfl (by kernel_rfl)) ?_
          refine SWl.rd rfl (Rd.assign rfl) ?_
          refine SWl.nil ?_
          refine SN.then ?_
          refine SW.seq ?_
          refine SW.region ?_
          refine SWl.rd rfl (Rd.move rfl) ?_
          refine SWl.rd rfl (Rd.fieldAddr (n := 0) rfl (by kernel_rfl)) ?_
          refine SWl.rd rfl (Rd.loadB 1 rfl rfl rfl (by kernel_rfl) ap_nil) ?_
          refine SWl.rd rfl (Rd.cvW .i64 rfl (by kernel_rfl) (by kernel_rfl) (wrap_b8 hf.1 hf.2.1)) ?_
          refine SWl.rd rfl (Rd.move rfl) ?_
          refine SWl.rd rfl (Rd.shrW (s := 24) rfl rfl (shr_n _ _ (by decide))) ?_
          refine SWl.rd rfl (Rd.cvW .i64 rfl (by kernel_rfl) (by kernel_rfl) (wrap_b8n _)) ?_
          refine SWl.rd rfl (Rd.move rfl) ?_
          refine SWl.rd rfl (Rd.shrW (s := 16) rfl rfl (shr_n _ _ (by decide))) ?_
          refine SWl.rd rfl (Rd.cvW .i64 rfl (by kernel_rfl) (by kernel_rfl) (wrap_b8n _)) ?_
          refine SWl.rd rfl (Rd.move rfl) ?_
          refine SWl.rd rfl (Rd.shrW (s := 8) rfl rfl (shr_n _ _ (by decide))) ?_
          refine SWl.rd rfl (Rd.cvW .i64 rfl (by kernel_rfl) (by kernel_rfl) (wrap_b8n _)) ?_
          refine SWl.rd rfl (Rd.move rfl) ?_
          refine SWl.rd rfl (Rd.cvW .i64 rfl (by kernel_rfl) (by kernel_rfl) (wrap_b8n _)) ?_
          refine SWl.ef (S := []) (Ef.litR rfl rfl (blsB5 _ _ _ _ _) rfl) ?_
          rintro _ rfl
          refine SWl.ef (Ef.appT 0 1 1 rfl rfl (SrcT.ls (l := [_, _, _, _, _]) rfl) (by kernel_rfl) (by kernel_rfl) (by have := szs_tk es hv j; have := encAll_len (es.take j); have := hf.2.2; simp; omega) (by decide) (fun _ h => h) rfl) ?_
          rintro _ ⟨A58, F58, c58, rfl⟩
          refine SWl.rd rfl (Rd.assign rfl) ?_
          refine SWl.nil ?_
          refine SN.then ?_
          refine SW.region ?_
          refine SWl.rd rfl (Rd.move rfl) ?_
          refine SWl.rd rfl (Rd.fieldAddr (n := 1) rfl (by kernel_rfl)) ?_
          refine SWl.rd rfl (Rd.loadB 0 rfl rfl rfl (by kernel_rfl) ap_nil) ?_
          refine SWl.ef (Ef.appT 1 1 1 rfl rfl (SrcT.b rfl) (by kernel_rfl) (by kernel_rfl) (by have := szs_tk es hv j; have := encAll_len (es.take j); have := hf.2.2; simp; omega) (by decide) (fun _ h => h) rfl) ?_
          rintro _ ⟨A62, F62, c62, rfl⟩
          refine SWl.rd rfl (Rd.assign rfl) ?_
          refine SWl.nil ?_
          refine SN.block ?_
          refine SN.then ?_
          refine SW.region ?_
          refine SWl.rd rfl (Rd.add rfl rfl ⟨by omega, by omega⟩) ?_
          refine SWl.rd rfl (Rd.move rfl) ?_
          refine SWl.nil ?_
          have henc : encAll (es.take (j + 1)) = (encAll (es.take j) ++ [UInt8.ofNat e.kind.toNat, UInt8.ofNat ((cellsOf e.bytes).length / 2 ^ 24), UInt8.ofNat ((cellsOf e.bytes).length / 2 ^ 16), UInt8.ofNat ((cellsOf e.bytes).length / 2 ^ 8), UInt8.ofNat (cellsOf e.bytes).length]) ++ e.bytes := by rw [encAll_snoc he, cellsOf_length]
          exact fun a w hh => hK1 (⟨(j + 1, ⟨A62, c62, F62⟩), by simp only; omega⟩) (by simp only; omega) a w (hh.sub (⟨⟨_, rfl, ⟨⟨_, rfl, Le.is (by rw [henc])⟩, ⟨⟨_, rfl, Le.refl _⟩, ⟨⟨_, rfl, Le.refl _⟩, ⟨⟨_, rfl, Le.refl _⟩, trivial⟩⟩⟩⟩⟩, [1], by decide, ⟨⟨_, rfl, leVec (by rw [henc]) (by rw [henc])⟩, trivial⟩⟩))
        · have hb36 := of_decide_eq_false hb36
          refine SW.exit' ?_
          repeat (first | refine SE.then ?_ | refine SE.skip (by decide) ?_)
          refine SE.here ?_
          refine SN.then ?_
          refine SW.seq ?_
          refine SW.region ?_
          refine SWl.rd rfl (Rd.move rfl) ?_
          refine SWl.rd rfl (Rd.assign rfl) ?_
          refine SWl.nil ?_
          refine SN.then ?_
          refine SW.freezeNB 0 2 rfl rfl rfl ?_
          refine SW.ret (fn := Tryd.f27) (fun _ _ h => h) (Rs.le (Rs.one rfl (ResV.tmp rfl)) ?_)
          rw [take_all (by omega)]; exact Le.refl _
set_option maxHeartbeats 4000000 in
set_option maxRecDepth 100000 in
theorem con_append_bad (gl : Nat) (s : Lst) (es es' : List Led.Ent) (k : Int) (b : List UInt8) (A : Option Addr) (c : Nat) (F : List Nat) (R : Res) (hR : IsView R (.slice A b.length c) (cellsOf b)) (hn : es.length ≤ 100000) (he : es' = Led.app es k b) (h : ¬ (0 ≤ k ∧ k ≤ 255 ∧ b.length ≤ 65536)) : ConR Tryd.prog 23 [.c gl [isD (.slice s.A (es).length s.c), isD (.map s.M)], ledE s (es), ledM s (es), .r F R] [isD (.pointer (some ⟨gl, 0, none⟩)), aggD [iD k, isD (.slice A b.length c)]] (fun t : Lst => [.c gl [isD (.slice t.A (es').length t.c), isD (.map t.M)], ledE t (es'), ledM t (es'), .r F R]) (fun t : Lst => tupD [iD (Led.appI es k b), iD (Led.appE es k b)]) := by
  refine con_ofR Tryd.func23 (by kernel_rfl) rfl (by kernel_rfl) fun base w0 => ?_
  refine SW.seq ?_
  refine SW.region ?_
  refine SWl.ef (S := []) (Ef.boxA rfl rfl) ?_
  rintro _ ⟨g3, rfl⟩
  refine SWl.rd rfl (Rd.assign rfl) ?_
  refine SWl.rd rfl (Rd.assign rfl) ?_
  refine SWl.nil ?_
  refine SN.then ?_
  refine SW.seq ?_
  refine SW.seq ?_
  refine SW.region ?_
  refine SWl.rd rfl (Rd.move rfl) ?_
  refine SWl.rd rfl (Rd.eqP rfl rfl (by kernel_rfl)) ?_
  refine SWl.nil ?_
  refine SN.then ?_
  refine SW.condF rfl (rfl) ?_
  refine SW.skip ?_
  refine SN.then ?_
  refine SW.seq ?_
  refine SW.seq ?_
  refine SW.region ?_
  refine SWl.rd rfl (Rd.loadA 4 2 rfl rfl (by kernel_rfl) rfl ap_nil) ?_
  refine SWl.ef (S := []) (Ef.callN [] (con_valid k b.length) rfl ⟨(sees_le (Le.agg ⟨Le.refl _, le_is_len, trivial⟩)), trivial⟩ rfl) ?_
  rintro _ rfl
  refine SWl.rd rfl (Rd.not rfl) ?_
  refine SWl.nil ?_
  refine SN.then ?_
  refine SW.condT rfl (by simp [h]) ?_
  refine SW.seq ?_
  refine SW.region ?_
  refine SWl.rd rfl (Rd.assign rfl) ?_
  refine SWl.rd rfl (Rd.assign rfl) ?_
  refine SWl.nil ?_
  refine SN.then ?_
  refine SW.retR (fn := Tryd.f23) (s) [0, 1, 2, 3] (fun _ _ h => h) (Rs.le (Rs.two rfl (ResV.tmp rfl) (ResV.tmp rfl)) ?_) (by decide) ⟨⟨_, rfl, ⟨Le.is (by rw [he, (Led.app_bad h).1]), Le.refl _, trivial⟩⟩, ⟨⟨_, rfl, leVec (by rw [he, (Led.app_bad h).1]) (by rw [he, (Led.app_bad h).1])⟩, ⟨⟨_, rfl, leMap (by rw [he, (Led.app_bad h).1]) (by rw [he, (Led.app_bad h).1])⟩, ⟨⟨_, rfl, LeR.refl _⟩, trivial⟩⟩⟩⟩
  exact Le.tup ⟨Le.is (by rw [(Led.app_bad h).2.2]), Le.is (by rw [(Led.app_bad h).2.1]), trivial⟩
set_option maxHeartbeats 4000000 in
set_option maxRecDepth 100000 in
theorem con_append_full (gl : Nat) (s : Lst) (es es' : List Led.Ent) (k : Int) (b : List UInt8) (A : Option Addr) (c : Nat) (F : List Nat) (R : Res) (hR : IsView R (.slice A b.length c) (cellsOf b)) (hn : es.length ≤ 100000) (he : es' = Led.app es k b) (h : 0 ≤ k ∧ k ≤ 255 ∧ b.length ≤ 65536) (h2 : ¬ es.length < 4096) : ConR Tryd.prog 23 [.c gl [isD (.slice s.A (es).length s.c), isD (.map s.M)], ledE s (es), ledM s (es), .r F R] [isD (.pointer (some ⟨gl, 0, none⟩)), aggD [iD k, isD (.slice A b.length c)]] (fun t : Lst => [.c gl [isD (.slice t.A (es').length t.c), isD (.map t.M)], ledE t (es'), ledM t (es'), .r F R]) (fun t : Lst => tupD [iD (Led.appI es k b), iD (Led.appE es k b)]) := by
  refine con_ofR Tryd.func23 (by kernel_rfl) rfl (by kernel_rfl) fun base w0 => ?_
  refine SW.seq ?_
  refine SW.region ?_
  refine SWl.ef (S := []) (Ef.boxA rfl rfl) ?_
  rintro _ ⟨g3, rfl⟩
  refine SWl.rd rfl (Rd.assign rfl) ?_
  refine SWl.rd rfl (Rd.assign rfl) ?_
  refine SWl.nil ?_
  refine SN.then ?_
  refine SW.seq ?_
  refine SW.seq ?_
  refine SW.region ?_
  refine SWl.rd rfl (Rd.move rfl) ?_
  refine SWl.rd rfl (Rd.eqP rfl rfl (by kernel_rfl)) ?_
  refine SWl.nil ?_
  refine SN.then ?_
  refine SW.condF rfl (rfl) ?_
  refine SW.skip ?_
  refine SN.then ?_
  refine SW.seq ?_
  refine SW.seq ?_
  refine SW.region ?_
  refine SWl.rd rfl (Rd.loadA 4 2 rfl rfl (by kernel_rfl) rfl ap_nil) ?_
  refine SWl.ef (S := []) (Ef.callN [] (con_valid k b.length) rfl ⟨(sees_le (Le.agg ⟨Le.refl _, le_is_len, trivial⟩)), trivial⟩ rfl) ?_
  rintro _ rfl
  refine SWl.rd rfl (Rd.not rfl) ?_
  refine SWl.nil ?_
  refine SN.then ?_
  refine SW.condF rfl (by simp; omega) ?_
  refine SW.skip ?_
  refine SN.then ?_
  refine SW.seq ?_
  refine SW.seq ?_
  refine SW.region ?_
  refine SWl.rd rfl (Rd.move rfl) ?_
  refine SWl.rd rfl (Rd.nilCheck rfl) ?_
  refine SWl.rd rfl (Rd.fieldAddr (n := 0) rfl (by kernel_rfl)) ?_
  refine SWl.rd rfl (Rd.loadB 0 rfl rfl rfl (by kernel_rfl) ap_nil) ?_
  refine SWl.rd rfl (Rd.lenE (e := 44) rfl (by kernel_rfl)) ?_
  refine SWl.rd rfl (Rd.geq rfl rfl) ?_
  refine SWl.nil ?_
  refine SN.then ?_
  refine SW.condT rfl (by simp; omega) ?_
  refine SW.seq ?_
  refine SW.region ?_
  refine SWl.rd rfl (Rd.assign rfl) ?_
  refine SWl.rd rfl (Rd.assign rfl) ?_
  refine SWl.nil ?_
  refine SN.then ?_
  refine SW.retR (fn := Tryd.f23) (s) [0, 1, 2, 3] (fun _ _ h => h) (Rs.le (Rs.two rfl (ResV.tmp rfl) (ResV.tmp rfl)) ?_) (by decide) ⟨⟨_, rfl, ⟨Le.is (by rw [he, (Led.app_full h h2).1]), Le.refl _, trivial⟩⟩, ⟨⟨_, rfl, leVec (by rw [he, (Led.app_full h h2).1]) (by rw [he, (Led.app_full h h2).1])⟩, ⟨⟨_, rfl, leMap (by rw [he, (Led.app_full h h2).1]) (by rw [he, (Led.app_full h h2).1])⟩, ⟨⟨_, rfl, LeR.refl _⟩, trivial⟩⟩⟩⟩
  exact Le.tup ⟨Le.is (by rw [(Led.app_full h h2).2.2]), Le.is (by rw [(Led.app_full h h2).2.1]), trivial⟩
set_option maxHeartbeats 4000000 in
set_option maxRecDepth 100000 in
theorem con_append_ok (gl : Nat) (s : Lst) (es es' : List Led.Ent) (k : Int) (b : List UInt8) (A : Option Addr) (c : Nat) (F : List Nat) (R : Res) (hR : IsView R (.slice A b.length c) (cellsOf b)) (hn : es.length ≤ 100000) (he : es' = Led.app es k b) (h : 0 ≤ k ∧ k ≤ 255 ∧ b.length ≤ 65536) (h2 : es.length < 4096) : ConR Tryd.prog 23 [.c gl [isD (.slice s.A (es).length s.c), isD (.map s.M)], ledE s (es), ledM s (es), .r F R] [isD (.pointer (some ⟨gl, 0, none⟩)), aggD [iD k, isD (.slice A b.length c)]] (fun t : Lst => [.c gl [isD (.slice t.A (es').length t.c), isD (.map t.M)], ledE t (es'), ledM t (es'), .r F R]) (fun t : Lst => tupD [iD (Led.appI es k b), iD (Led.appE es k b)]) := by
  refine con_ofR Tryd.func23 (by kernel_rfl) rfl (by kernel_rfl) fun base w0 => ?_
  refine SW.seq ?_
  refine SW.region ?_
  refine SWl.ef (S := []) (Ef.boxA rfl rfl) ?_
  rintro _ ⟨g3, rfl⟩
  refine SWl.rd rfl (Rd.assign rfl) ?_
  refine SWl.rd rfl (Rd.assign rfl) ?_
  refine SWl.nil ?_
  refine SN.then ?_
  refine SW.seq ?_
  refine SW.seq ?_
  refine SW.region ?_
  refine SWl.rd rfl (Rd.move rfl) ?_
  refine SWl.rd rfl (Rd.eqP rfl rfl (by kernel_rfl)) ?_
  refine SWl.nil ?_
  refine SN.then ?_
  refine SW.condF rfl (rfl) ?_
  refine SW.skip ?_
  refine SN.then ?_
  refine SW.seq ?_
  refine SW.seq ?_
  refine SW.region ?_
  refine SWl.rd rfl (Rd.loadA 4 2 rfl rfl (by kernel_rfl) rfl ap_nil) ?_
  refine SWl.ef (S := []) (Ef.callN [] (con_valid k b.length) rfl ⟨(sees_le (Le.agg ⟨Le.refl _, le_is_len, trivial⟩)), trivial⟩ rfl) ?_
  rintro _ rfl
  refine SWl.rd rfl (Rd.not rfl) ?_
  refine SWl.nil ?_
  refine SN.then ?_
  refine SW.condF rfl (by simp; omega) ?_
  refine SW.skip ?_
  refine SN.then ?_
  refine SW.seq ?_
  refine SW.seq ?_
  refine SW.region ?_
  refine SWl.rd rfl (Rd.move rfl) ?_
  refine SWl.rd rfl (Rd.nilCheck rfl) ?_
  refine SWl.rd rfl (Rd.fieldAddr (n := 0) rfl (by kernel_rfl)) ?_
  refine SWl.rd rfl (Rd.loadB 0 rfl rfl rfl (by kernel_rfl) ap_nil) ?_
  refine SWl.rd rfl (Rd.lenE (e := 44) rfl (by kernel_rfl)) ?_
  refine SWl.rd rfl (Rd.geq rfl rfl) ?_
  refine SWl.nil ?_
  refine SN.then ?_
  refine SW.condF rfl (by simp; omega) ?_
  refine SW.skip ?_
  refine SN.then ?_
  refine SW.seq ?_
  refine SW.region ?_
  refine SWl.rd rfl (Rd.move rfl) ?_
  refine SWl.rd rfl (Rd.loadA 4 2 rfl rfl (by kernel_rfl) rfl ap_nil) ?_
  refine SWl.ef (Ef.callR [0, 1, 2, 3] (con_push gl s es _ k b A c F R hR (by omega) ⟨h.1, h.2.1⟩ hn rfl) rfl ⟨Le.refl _, Le.refl _, trivial⟩ (by decide) ⟨⟨_, rfl, LeAll.refl _⟩, ⟨⟨_, rfl, LeR.refl _⟩, ⟨⟨_, rfl, LeR.refl _⟩, ⟨⟨_, rfl, LeR.refl _⟩, trivial⟩⟩⟩⟩ (fun _ h => h) rfl) ?_
  rintro _ ⟨s2, rfl⟩
  refine SWl.nil ?_
  refine SN.then ?_
  refine SW.seq ?_
  refine SW.region ?_
  refine SWl.rd rfl (Rd.move rfl) ?_
  refine SWl.rd rfl (Rd.nilCheck rfl) ?_
  refine SWl.rd rfl (Rd.fieldAddr (n := 0) rfl (by kernel_rfl)) ?_
  refine SWl.rd rfl (Rd.loadB 1 rfl rfl rfl (by kernel_rfl) ap_nil) ?_
  refine SWl.rd rfl (Rd.lenE (e := 44) rfl (by kernel_rfl)) ?_
  refine SWl.rd rfl (Rd.subi rfl rfl ⟨by simp <;> omega, by simp <;> omega⟩) ?_
  refine SWl.rd rfl (Rd.assign rfl) ?_
  refine SWl.rd rfl (Rd.assign rfl) ?_
  refine SWl.nil ?_
  refine SN.then ?_
  refine SW.retR (fn := Tryd.f23) (s2) [1, 2, 3, 4] (fun _ _ h => h) (Rs.le (Rs.two rfl (ResV.tmp rfl) (ResV.tmp rfl)) ?_) (by decide) ⟨⟨_, rfl, ⟨Le.is (by rw [he, (Led.app_ok h h2).1]), Le.refl _, trivial⟩⟩, ⟨⟨_, rfl, leVec (by rw [he, (Led.app_ok h h2).1]) (by rw [he, (Led.app_ok h h2).1])⟩, ⟨⟨_, rfl, leMap (by rw [he, (Led.app_ok h h2).1]) (by rw [he, (Led.app_ok h h2).1])⟩, ⟨⟨_, rfl, LeR.refl _⟩, trivial⟩⟩⟩⟩
  exact Le.tup ⟨Le.is (by rw [(Led.app_ok h h2).2.2]; simp), Le.is (by rw [(Led.app_ok h h2).2.1]), trivial⟩
theorem con_append (gl : Nat) (s : Lst) (es es' : List Led.Ent) (k : Int) (b : List UInt8) (A : Option Addr) (c : Nat) (F : List Nat) (R : Res) (hR : IsView R (.slice A b.length c) (cellsOf b)) (hn : es.length ≤ 100000) (he : es' = Led.app es k b) :
    ConR Tryd.prog 23 [ledC gl s es, ledE s es, ledM s es, .r F R] [isD (.pointer (some ⟨gl, 0, none⟩)), aggD [iD k, isD (.slice A b.length c)]] (fun s : Lst => [ledC gl s es', ledE s es', ledM s es', .r F R]) (fun _ => tupD [iD (Led.appI es k b), iD (Led.appE es k b)]) := by
  by_cases h : 0 ≤ k ∧ k ≤ 255 ∧ b.length ≤ 65536
  · by_cases h2 : es.length < 4096
    · exact con_append_ok gl s es es' k b A c F R hR hn he h h2
    · exact con_append_full gl s es es' k b A c F R hR hn he h h2
  · exact con_append_bad gl s es es' k b A c F R hR hn he h
set_option maxHeartbeats 4000000 in
set_option maxRecDepth 100000 in
theorem con_few (l : List Led.Ent) (m : Nat) (hl : l.length ≤ 9223372036854775807) : ConN Tryd.prog 10 [lsD encE l, iD (m : Int)] (boolD (decide ((∀ e ∈ l, e.bytes.length ≤ 200) ∧ l.length ≤ m))) := by
  refine con_ofN Tryd.func10 (by kernel_rfl) rfl (by kernel_rfl) fun base w0 => ?_
  refine SW.seq ?_
  refine SW.region ?_
  refine SWl.rd rfl (Rd.assign rfl) ?_
  refine SWl.nil ?_
  refine SN.then ?_
  refine SW.seq ?_
  refine SW.seq ?_
  refine SW.region ?_
  refine SWl.rd rfl (Rd.assign rfl) ?_
  refine SWl.nil ?_
  refine SN.then ?_
  refine SW.block ?_
  refine SW.loop (ι := {i : Nat // i ≤ l.length ∧ ∀ e ∈ l.take i, e.bytes.length ≤ 200}) (fun i => St.ob [(0, lsD encE l), (1, iD (m : Int)), (5, iD (i.1 : Int))] []) (fun i => l.length - i.1) (⟨0, by simp⟩) ?_ ?_
  · exact ⟨⟨_, rfl, ⟨⟨_, rfl, Le.refl _⟩, ⟨⟨_, rfl, Le.refl _⟩, ⟨⟨_, rfl, Le.refl _⟩, trivial⟩⟩⟩⟩, [], by decide, trivial⟩
  · rintro ⟨i, hi, ha⟩ K0 hK0
    dsimp only
    refine SW.seq ?_
    refine SW.seq ?_
    refine SW.region ?_
    refine SWl.rd rfl (Rd.move rfl) ?_
    refine SWl.rd rfl (Rd.move rfl) ?_
    refine SWl.rd rfl (Rd.lenR (e := 44) rfl (by kernel_rfl)) ?_
    refine SWl.rd rfl (Rd.lss rfl rfl) ?_
    refine SWl.nil ?_
    refine SN.then ?_
    refine SW.cond rfl (fun hb9 => ?_) (fun hb9 => ?_)
    · have hb9 := of_decide_eq_true hb9
      refine SW.skip ?_
      refine SN.then ?_
      refine SW.seq ?_
      refine SW.block ?_
      refine SW.seq ?_
      refine SW.region ?_
      obtain ⟨e, he⟩ : ∃ e, l[i]? = some e := ⟨_, List.getElem?_eq_getElem (by omega)⟩
      refine SWl.rd rfl (Rd.move rfl) ?_
      refine SWl.rd rfl (Rd.move rfl) ?_
      refine SWl.rd rfl (Rd.idxL (e := 44) 2 rfl rfl (by kernel_rfl) (by kernel_rfl) (by omega) (by simpa using he)) ?_
      refine SWl.rd rfl (Rd.fieldR (n := 1) rfl (by kernel_rfl) (show 1 < 2 by decide)) ?_
      refine SWl.rd rfl (Rd.loadR rfl rfl (by kernel_rfl) (by simp)) ?_
      refine SWl.rd rfl (Rd.len (e := 5) rfl (by kernel_rfl)) ?_
      refine SWl.rd rfl (Rd.gtr rfl rfl) ?_
      refine SWl.nil ?_
      refine SN.then ?_
      refine SW.cond rfl (fun hb18 => ?_) (fun hb18 => ?_)
      · have hb18 := of_decide_eq_true hb18
        refine SW.seq ?_
        refine SW.region ?_
        refine SWl.rd rfl (Rd.assign rfl) ?_
        refine SWl.nil ?_
        refine SN.then ?_
        refine SW.ret (fn := Tryd.f10) (fun _ _ h => h) (Rs.le (Rs.one rfl (ResV.tmp rfl)) ?_)
        exact le_bool_n (by symm; apply decide_eq_false; rintro ⟨h, _⟩; have := h e (List.mem_of_getElem? he); simp at hb18; omega)
      · have hb18 := of_decide_eq_false hb18
        refine SW.skip ?_
        refine SN.block ?_
        refine SN.then ?_
        refine SW.region ?_
        refine SWl.rd rfl (Rd.move rfl) ?_
        refine SWl.rd rfl (Rd.add rfl rfl ⟨by omega, by omega⟩) ?_
        refine SWl.rd rfl (Rd.assign rfl) ?_
        refine SWl.nil ?_
        exact fun a w hh => hK0 (⟨i + 1, by omega, fun x hx => by rw [take_snoc he] at hx; rcases List.mem_append.1 hx with hx | hx; exact ha x hx; rw [List.mem_singleton.1 hx]; simp at hb18; omega⟩) (by simp only; omega) a w (hh.sub (⟨⟨_, rfl, ⟨⟨_, rfl, Le.refl _⟩, ⟨⟨_, rfl, Le.refl _⟩, ⟨⟨_, rfl, Le.refl _⟩, trivial⟩⟩⟩⟩, [], by decide, trivial⟩))
    · have hb9 := of_decide_eq_false hb9
      refine SW.exit' ?_
      repeat (first | refine SE.then ?_ | refine SE.skip (by decide) ?_)
      refine SE.here ?_
      refine SN.then ?_
      refine SW.seq ?_
      refine SW.region ?_
      refine SWl.rd rfl (Rd.move rfl) ?_
      refine SWl.rd rfl (Rd.lenR (e := 44) rfl (by kernel_rfl)) ?_
      refine SWl.rd rfl (Rd.move rfl) ?_
      refine SWl.rd rfl (Rd.leq rfl rfl) ?_
      refine SWl.rd rfl (Rd.assign rfl) ?_
      refine SWl.nil ?_
      refine SN.then ?_
      refine SW.ret (fn := Tryd.f10) (fun _ _ h => h) (Rs.le (Rs.one rfl (ResV.tmp rfl)) ?_)
      exact le_bool_n (by rw [take_all (by omega)] at ha; rw [Bool.eq_iff_iff]; simp; intro _; exact ha)
set_option maxHeartbeats 4000000 in
set_option maxRecDepth 100000 in
theorem con_same43 (k k2 : Int) (b b2 : List UInt8) : ConN Tryd.prog 21 [aggD [iD k, bD b], aggD [iD k2, bD b2]] (boolD (decide (k = k2 ∧ b = b2))) := by
  refine con_ofN Tryd.func21 (by kernel_rfl) rfl (by kernel_rfl) fun base w0 => ?_
  refine SW.seq ?_
  refine SW.region ?_
  refine SWl.ef (S := []) (Ef.boxA rfl rfl) ?_
  rintro _ ⟨g2, rfl⟩
  refine SWl.ef (S := []) (Ef.boxA rfl rfl) ?_
  rintro _ ⟨g3, rfl⟩
  refine SWl.rd rfl (Rd.assign rfl) ?_
  refine SWl.nil ?_
  refine SN.then ?_
  refine SW.seq ?_
  refine SW.region ?_
  refine SWl.rd rfl (Rd.fieldAddr (n := 0) rfl (by kernel_rfl)) ?_
  refine SWl.rd rfl (Rd.loadB 0 rfl rfl rfl (by kernel_rfl) ap_nil) ?_
  refine SWl.rd rfl (Rd.fieldAddr (n := 0) rfl (by kernel_rfl)) ?_
  refine SWl.rd rfl (Rd.loadB 1 rfl rfl rfl (by kernel_rfl) ap_nil) ?_
  refine SWl.rd rfl (Rd.eqi rfl rfl) ?_
  refine SWl.rd rfl (Rd.move rfl) ?_
  refine SWl.split 10 rfl (fun hb10 => ?_) (fun hb10 => ?_)
  · have hk := of_decide_eq_true hb10
    refine SWl.rdg rfl rfl (hb10) rfl rfl (Rd.fieldAddr (n := 1) rfl (by kernel_rfl)) ?_
    refine SWl.rdg rfl rfl (hb10) rfl rfl (Rd.loadB 0 rfl rfl rfl (by kernel_rfl) ap_nil) ?_
    refine SWl.rdg rfl rfl (hb10) rfl rfl (Rd.str (e := 5) rfl (by kernel_rfl) (by kernel_rfl) (by kernel_rfl) (by simp)) ?_
    refine SWl.rdg rfl rfl (hb10) rfl rfl (Rd.fieldAddr (n := 1) rfl (by kernel_rfl)) ?_
    refine SWl.rdg rfl rfl (hb10) rfl rfl (Rd.loadB 1 rfl rfl rfl (by kernel_rfl) ap_nil) ?_
    refine SWl.rdg rfl rfl (hb10) rfl rfl (Rd.str (e := 5) rfl (by kernel_rfl) (by kernel_rfl) (by kernel_rfl) (by simp)) ?_
    refine SWl.rdg rfl rfl (hb10) rfl rfl (Rd.eqs  rfl rfl) ?_
    refine SWl.rd rfl (Rd.pickY rfl (hb10) rfl) ?_
    refine SWl.rd rfl (Rd.assign rfl) ?_
    refine SWl.nil ?_
    refine SN.then ?_
    refine SW.ret (fn := Tryd.f21) (fun _ _ h => h) (Rs.le (Rs.one rfl (ResV.tmp rfl)) ?_)
    exact le_bool_n (by rw [Bool.eq_iff_iff]; simp [hk])
  · have hk := of_decide_eq_false hb10
    refine SWl.off rfl rfl (hb10) rfl rfl ?_
    refine SWl.off rfl rfl (hb10) rfl rfl ?_
    refine SWl.off rfl rfl (hb10) rfl rfl ?_
    refine SWl.off rfl rfl (hb10) rfl rfl ?_
    refine SWl.off rfl rfl (hb10) rfl rfl ?_
    refine SWl.off rfl rfl (hb10) rfl rfl ?_
    refine SWl.off rfl rfl (hb10) rfl rfl ?_
    refine SWl.rd rfl (Rd.pickN rfl (hb10) rfl) ?_
    refine SWl.rd rfl (Rd.assign rfl) ?_
    refine SWl.nil ?_
    refine SN.then ?_
    refine SW.ret (fn := Tryd.f21) (fun _ _ h => h) (Rs.le (Rs.one rfl (ResV.tmp rfl)) ?_)
    exact le_bool_n (by symm; apply decide_eq_false; rintro ⟨h, _⟩; exact hk h)
end Sx
end Go.Proofs.YtonjpfpdpfonnaaDoor
namespace Go.Proofs.YtonjpfpdpfonnaaDoor
open Go.RowKit
namespace Sx
namespace Led
end Led
theorem fits_take_len (l : List Led.Ent) (i : Nat) : (Led.fits (l.take i)).length ≤ l.length := Nat.le_trans (fits_len _) (by simp; omega)
theorem app_fit {es : List Led.Ent} {e : Led.Ent} (hl : es.length < 4096) : Led.app es e.kind e.bytes = (if Led.Ent.fit e then es ++ [e] else es) ∧ Led.appE es e.kind e.bytes = (if Led.Ent.fit e then 0 else 2) ∧ Led.appI es e.kind e.bytes = (if Led.Ent.fit e then (es.length : Int) else 0) := by
  by_cases h : Led.Ent.fit e
  · rw [if_pos h, if_pos h, if_pos h]; exact Led.app_ok h hl
  · rw [if_neg h, if_neg h, if_neg h]; exact Led.app_bad h
set_option maxHeartbeats 4000000 in
set_option maxRecDepth 100000 in
theorem con_made (l : List Led.Ent) (hl : l.length ≤ 1000) (hb : ∀ e ∈ l, e.bytes.length ≤ 1000000) : ConR Tryd.prog 12 [] [lsD encE l] (fun t : Nat × Lst => [.c t.1 [isD (.slice t.2.A (Led.fits l).length t.2.c), isD (.map t.2.M)], ledE t.2 (Led.fits l), ledM t.2 (Led.fits l)]) (fun t : Nat × Lst => tupD [isD (.pointer (some ⟨t.1, 0, none⟩)), lsD encE (Led.fits l), boolD true]) := by
  refine con_ofR Tryd.func12 (by kernel_rfl) rfl (by kernel_rfl) fun base w0 => ?_
  refine SW.seq ?_
  refine SW.region ?_
  refine SWl.rd rfl (Rd.assign rfl) ?_
  refine SWl.rd rfl (Rd.assign rfl) ?_
  refine SWl.rd rfl (Rd.assign rfl) ?_
  refine SWl.nil ?_
  refine SN.then ?_
  refine SW.seq ?_
  refine SW.region ?_
  refine SWl.rd rfl (Rd.build rfl rfl bldL0) ?_
  refine SWl.ef (S := []) (Ef.boxA rfl rfl) ?_
  rintro _ ⟨g13, rfl⟩
  refine SWl.rd rfl (Rd.assign rfl) ?_
  refine SWl.nil ?_
  refine SN.then ?_
  refine SW.seq ?_
  refine SW.vecN 44 2 encE ?_
  refine SW.mapN encN ?_
  refine SW.region ?_
  refine SWl.rd rfl (Rd.assign rfl) ?_
  refine SWl.nil ?_
  refine SN.then ?_
  refine SW.seq ?_
  refine SW.seq ?_
  refine SW.vecN 44 2 encE ?_
  refine SW.region ?_
  refine SWl.rd rfl (Rd.assign rfl) ?_
  refine SWl.nil ?_
  refine SN.then ?_
  refine SW.block ?_
  refine SW.loop (ι := {p : Nat × Lst × Vst // p.1 ≤ l.length}) (fun p => St.ob [(0, lsD encE l), (5, isD (.pointer (some ⟨g13, 0, none⟩))), (6, isD (.slice p.1.2.2.A ((Led.fits (l.take p.1.1))).length p.1.2.2.c)), (7, iD (p.1.1 : Int))] [.c g13 [isD (.slice p.1.2.1.A ((Led.fits (l.take p.1.1))).length p.1.2.1.c), isD (.map p.1.2.1.M)], ledE p.1.2.1 ((Led.fits (l.take p.1.1))), ledM p.1.2.1 ((Led.fits (l.take p.1.1))), .r p.1.2.2.F (vecT 44 2 encE p.1.2.2.A p.1.2.2.c ((Led.fits (l.take p.1.1))))]) (fun p => l.length - p.1.1) (⟨(0, ⟨none, 0, [], none, []⟩, ⟨none, 0, []⟩), by simp⟩) ?_ ?_
  · exact ⟨⟨_, rfl, ⟨⟨_, rfl, Le.refl _⟩, ⟨⟨_, rfl, Le.refl _⟩, ⟨⟨_, rfl, Le.refl _⟩, ⟨⟨_, rfl, Le.refl _⟩, trivial⟩⟩⟩⟩⟩, [0, 1, 2, 3], by decide, ⟨⟨_, rfl, LeAll.refl _⟩, ⟨⟨_, rfl, LeR.refl _⟩, ⟨⟨_, rfl, LeR.refl _⟩, ⟨⟨_, rfl, LeR.refl _⟩, trivial⟩⟩⟩⟩⟩
  · rintro ⟨⟨i, s, v⟩, hi⟩ K0 hK0
    dsimp only at hi ⊢
    refine SW.seq ?_
    refine SW.seq ?_
    refine SW.region ?_
    refine SWl.rd rfl (Rd.move rfl) ?_
    refine SWl.rd rfl (Rd.move rfl) ?_
    refine SWl.rd rfl (Rd.lenR (e := 44) rfl (by kernel_rfl)) ?_
    refine SWl.rd rfl (Rd.lss rfl rfl) ?_
    refine SWl.nil ?_
    refine SN.then ?_
    refine SW.cond rfl (fun hb17 => ?_) (fun hb17 => ?_)
    · have hb17 := of_decide_eq_true hb17
      refine SW.skip ?_
      refine SN.then ?_
      refine SW.seq ?_
      refine SW.block ?_
      refine SW.seq ?_
      obtain ⟨e, he⟩ : ∃ e, l[i]? = some e := ⟨_, List.getElem?_eq_getElem (by omega)⟩
      have hbe := hb e (List.mem_of_getElem? he)
      have hfl := fits_take_len l i
      obtain ⟨ha1, ha2, ha3⟩ := app_fit (es := (Led.fits (l.take i))) (e := e) (by omega)
      refine SW.vecN 5 1 encB ?_
      refine SW.meet (fun σ => ∃ g8 A30 F30 c30, σ = St.ob [(0, lsD encE l), (5, isD (.pointer (some ⟨g13, 0, none⟩))), (6, isD (.slice v.A ((Led.fits (l.take i))).length v.c)), (7, iD (i : Int)), (8, isD (.pointer (some ⟨g8, 0, none⟩)))] [.c g13 [isD (.slice s.A ((Led.fits (l.take i))).length s.c), isD (.map s.M)], ledE s ((Led.fits (l.take i))), ledM s ((Led.fits (l.take i))), .r v.F (vecT 44 2 encE v.A v.c ((Led.fits (l.take i)))), .c g8 [iD e.kind, isD (.slice A30 e.bytes.length c30)], .r F30 (vecT 5 1 encB A30 c30 e.bytes)]) ?_ ?_
      · refine SW.draw [] (.r 0 (.r 1 (.r 2 (.r 3 (.r 4 (.r 5 (.r 6 (.r 7 (.r 8 (.r 9 (.e 10 (.r 11 (.n 12 (.e 13 .fin .no) .no)) (.n 12 (.e 10 (.r 11 (.e 13 .fin .no)) .no) .no)))))))))))) (by kernel_rfl) (by kernel_rfl) (fun d _ _ _ _ h => by cases d <;> exact h) ?_
        refine SWz.rd (i := 0) rfl rfl (Rd.move rfl) ?_
        refine SWz.rd (i := 1) rfl rfl (Rd.move rfl) ?_
        refine SWz.rd (i := 2) rfl rfl (Rd.idxL (e := 44) 2 rfl rfl (by kernel_rfl) (by kernel_rfl) (by omega) (by simpa using he)) ?_
        refine SWz.rd (i := 3) rfl rfl (Rd.fieldR (n := 0) rfl (by kernel_rfl) (show 0 < 2 by decide)) ?_
        refine SWz.rd (i := 4) rfl rfl (Rd.loadR rfl rfl (by kernel_rfl) (by simp)) ?_
        refine SWz.rd (i := 5) rfl rfl (Rd.move rfl) ?_
        refine SWz.rd (i := 6) rfl rfl (Rd.move rfl) ?_
        refine SWz.rd (i := 7) rfl rfl (Rd.idxL (e := 44) 2 rfl rfl (by kernel_rfl) (by kernel_rfl) (by omega) (by simpa using he)) ?_
        refine SWz.rd (i := 8) rfl rfl (Rd.fieldR (n := 1) rfl (by kernel_rfl) (show 1 < 2 by decide)) ?_
        refine SWz.rd (i := 9) rfl rfl (Rd.loadR rfl rfl (by kernel_rfl) (by simp)) ?_
        refine SWz.efe (i := 10) rfl (Ef.appT 4 1 1 rfl rfl (SrcT.b rfl) (by kernel_rfl) (by kernel_rfl) (by simp; omega) (by decide) (by simp) rfl) ?_ ?_
        · rintro _ ⟨A30, F30, c30, rfl⟩
          refine SWz.rd (i := 11) rfl rfl (Rd.build rfl rfl bldE2) ?_
          refine SWz.efb (i := 12) rfl (EfB.alloc (zs := [.int .i64 0, .slice none 0 0]) (by kernel_rfl) rfl) ?_ SWz.no
          rintro g8 _ rfl
          refine SWz.efe (i := 13) rfl (Ef.storeA 5 rfl rfl rfl (by kernel_rfl) rfl (List.mem_append_right _ (List.mem_cons_self))) ?_ SWz.no
          rintro _ rfl
          refine SWz.nil ?_
          exact SN.meet ⟨g8, A30, F30, c30, rfl⟩ (⟨⟨_, rfl, ⟨⟨_, rfl, Le.refl _⟩, ⟨⟨_, rfl, Le.refl _⟩, ⟨⟨_, rfl, Le.refl _⟩, ⟨⟨_, rfl, Le.refl _⟩, ⟨⟨_, rfl, Le.refl _⟩, trivial⟩⟩⟩⟩⟩⟩, [0, 1, 2, 3, 5, 4], by decide, ⟨⟨_, rfl, LeAll.refl _⟩, ⟨⟨_, rfl, LeR.refl _⟩, ⟨⟨_, rfl, LeR.refl _⟩, ⟨⟨_, rfl, LeR.refl _⟩, ⟨⟨_, rfl, LeAll.refl _⟩, ⟨⟨_, rfl, LeR.refl _⟩, trivial⟩⟩⟩⟩⟩⟩⟩)
        refine SWz.efb (i := 12) rfl (EfB.alloc (zs := [.int .i64 0, .slice none 0 0]) (by kernel_rfl) rfl) ?_ SWz.no
        rintro g8 _ rfl
        refine SWz.efe (i := 10) rfl (Ef.appT 4 1 1 rfl rfl (SrcT.b rfl) (by kernel_rfl) (by kernel_rfl) (by simp; omega) (by decide) (by simp) rfl) ?_ SWz.no
        rintro _ ⟨A30, F30, c30, rfl⟩
        refine SWz.rd (i := 11) rfl rfl (Rd.build rfl rfl bldE2) ?_
        refine SWz.efe (i := 13) rfl (Ef.storeA 4 rfl rfl rfl (by kernel_rfl) rfl (List.mem_append_right _ (List.mem_cons_self))) ?_ SWz.no
        rintro _ rfl
        refine SWz.nil ?_
        exact SN.meet ⟨g8, A30, F30, c30, rfl⟩ (⟨⟨_, rfl, ⟨⟨_, rfl, Le.refl _⟩, ⟨⟨_, rfl, Le.refl _⟩, ⟨⟨_, rfl, Le.refl _⟩, ⟨⟨_, rfl, Le.refl _⟩, ⟨⟨_, rfl, Le.refl _⟩, trivial⟩⟩⟩⟩⟩⟩, [0, 1, 2, 3, 4, 5], by decide, ⟨⟨_, rfl, LeAll.refl _⟩, ⟨⟨_, rfl, LeR.refl _⟩, ⟨⟨_, rfl, LeR.refl _⟩, ⟨⟨_, rfl, LeR.refl _⟩, ⟨⟨_, rfl, LeAll.refl _⟩, ⟨⟨_, rfl, LeR.refl _⟩, trivial⟩⟩⟩⟩⟩⟩⟩)
      · rintro _ ⟨g8, A30, F30, c30, rfl⟩
        refine SN.then ?_
        refine SW.seq ?_
        refine SW.region ?_
        refine SWl.rd rfl (Rd.move rfl) ?_
        refine SWl.rd rfl (Rd.loadA 4 2 rfl rfl (by kernel_rfl) rfl ap_nil) ?_
        refine SWl.ef (Ef.callR [0, 1, 2, 5] (con_append g13 s (Led.fits (l.take i)) _ e.kind e.bytes A30 c30 F30 _ isView_vec (by omega) rfl) rfl ⟨Le.refl _, Le.refl _, trivial⟩ (by decide) ⟨⟨_, rfl, LeAll.refl _⟩, ⟨⟨_, rfl, LeR.refl _⟩, ⟨⟨_, rfl, LeR.refl _⟩, ⟨⟨_, rfl, LeR.refl _⟩, trivial⟩⟩⟩⟩ (fun _ h => h) rfl) ?_
        rintro _ ⟨s2, rfl⟩
        refine SWl.rd rfl (Rd.move rfl) ?_
        refine SWl.rd rfl (Rd.extract rfl rfl) ?_
        refine SWl.rd rfl (Rd.extract rfl rfl) ?_
        refine SWl.rd rfl (Rd.assign rfl) ?_
        refine SWl.rd rfl (Rd.assign rfl) ?_
        refine SWl.nil ?_
        refine SN.then ?_
        refine SW.seq ?_
        refine SW.seq ?_
        refine SW.region ?_
        refine SWl.rd rfl (Rd.assign rfl) ?_
        refine SWl.nil ?_
        refine SN.then ?_
        refine SW.block ?_
        refine SW.loop (ι := {q : Nat × List UInt8 // q.2.length = e.bytes.length}) (fun q => St.ob [(0, lsD encE l), (5, isD (.pointer (some ⟨g13, 0, none⟩))), (6, isD (.slice v.A ((Led.fits (l.take i))).length v.c)), (7, iD (i : Int)), (8, isD (.pointer (some ⟨g8, 0, none⟩))), (9, iD (Led.appI (Led.fits (l.take i)) e.kind e.bytes)), (10, iD (Led.appE (Led.fits (l.take i)) e.kind e.bytes)), (11, iD (q.1.1 : Int))] [.c g13 [isD (.slice s2.A (Led.app (Led.fits (l.take i)) e.kind e.bytes).length s2.c), isD (.map s2.M)], ledE s2 (Led.app (Led.fits (l.take i)) e.kind e.bytes), ledM s2 (Led.app (Led.fits (l.take i)) e.kind e.bytes), .r v.F (vecT 44 2 encE v.A v.c ((Led.fits (l.take i)))), .c g8 [iD e.kind, isD (.slice A30 q.1.2.length c30)], .r F30 (vecT 5 1 encB A30 c30 q.1.2)]) (fun q => q.1.2.length - q.1.1) (⟨(0, e.bytes), rfl⟩) ?_ ?_
        · exact ⟨⟨_, rfl, ⟨⟨_, rfl, Le.refl _⟩, ⟨⟨_, rfl, Le.refl _⟩, ⟨⟨_, rfl, Le.refl _⟩, ⟨⟨_, rfl, Le.refl _⟩, ⟨⟨_, rfl, Le.refl _⟩, ⟨⟨_, rfl, Le.refl _⟩, ⟨⟨_, rfl, Le.refl _⟩, ⟨⟨_, rfl, Le.refl _⟩, trivial⟩⟩⟩⟩⟩⟩⟩⟩⟩, [2, 3, 4, 0, 1, 5], by decide, ⟨⟨_, rfl, LeAll.refl _⟩, ⟨⟨_, rfl, LeR.refl _⟩, ⟨⟨_, rfl, LeR.refl _⟩, ⟨⟨_, rfl, LeR.refl _⟩, ⟨⟨_, rfl, LeAll.refl _⟩, ⟨⟨_, rfl, LeR.refl _⟩, trivial⟩⟩⟩⟩⟩⟩⟩
        · rintro ⟨⟨k, q⟩, hq⟩ K1 hK1
          dsimp only at hq ⊢
          refine SW.seq ?_
          refine SW.seq ?_
          refine SW.region ?_
          refine SWl.rd rfl (Rd.move rfl) ?_
          refine SWl.rd rfl (Rd.fieldAddr (n := 1) rfl (by kernel_rfl)) ?_
          refine SWl.rd rfl (Rd.loadB 4 rfl rfl rfl (by kernel_rfl) ap_nil) ?_
          refine SWl.rd rfl (Rd.lenE (e := 5) rfl (by kernel_rfl)) ?_
          refine SWl.rd rfl (Rd.lss rfl rfl) ?_
          refine SWl.nil ?_
          refine SN.then ?_
          refine SW.cond rfl (fun hb42 => ?_) (fun hb42 => ?_)
          · have hb42 := of_decide_eq_true hb42
            refine SW.skip ?_
            refine SN.then ?_
            refine SW.seq ?_
            refine SW.block ?_
            refine SW.region ?_
            refine SWl.rd rfl (Rd.fieldAddr (n := 1) rfl (by kernel_rfl)) ?_
            refine SWl.rd rfl (Rd.loadB 4 rfl rfl rfl (by kernel_rfl) ap_nil) ?_
            refine SWl.rd rfl (Rd.move rfl) ?_
            obtain ⟨x, hx⟩ : ∃ x, q[k]? = some x := ⟨_, List.getElem?_eq_getElem (by omega)⟩
            refine SWl.rd rfl (Rd.idxT 5 1 rfl rfl rfl (by kernel_rfl) (by kernel_rfl) (by omega) (by simp; omega)) ?_
            refine SWl.rd rfl (Rd.loadT1 5 rfl rfl (by kernel_rfl) (by simpa using hx) rfl ap_nil) ?_
            refine SWl.rd rfl (Rd.addB (b := 1) rfl rfl) ?_
            refine SWl.rd rfl (Rd.idxT 5 1 rfl rfl rfl (by kernel_rfl) (by kernel_rfl) (by omega) (by simp; omega)) ?_
            refine SWl.ef (S := _) (Ef.storeT1 (v := x + 1) 5 rfl rfl rfl rfl (by kernel_rfl) (by simp; omega) (fun _ h => h)) ?_
            rintro _ rfl
            refine SWl.nil ?_
            refine SN.block ?_
            refine SN.then ?_
            refine SW.region ?_
            refine SWl.rd rfl (Rd.move rfl) ?_
            refine SWl.rd rfl (Rd.add rfl rfl ⟨by omega, by omega⟩) ?_
            refine SWl.rd rfl (Rd.assign rfl) ?_
            refine SWl.nil ?_
            exact fun a w hh => hK1 (⟨(k + 1, q.set k (x + 1)), by simp; exact hq⟩) (by simp; omega) a w (hh.sub (⟨⟨_, rfl, ⟨⟨_, rfl, Le.refl _⟩, ⟨⟨_, rfl, Le.refl _⟩, ⟨⟨_, rfl, Le.refl _⟩, ⟨⟨_, rfl, Le.refl _⟩, ⟨⟨_, rfl, Le.refl _⟩, ⟨⟨_, rfl, Le.refl _⟩, ⟨⟨_, rfl, Le.refl _⟩, ⟨⟨_, rfl, Le.refl _⟩, trivial⟩⟩⟩⟩⟩⟩⟩⟩⟩, [0, 1, 2, 3, 4, 5], by decide, ⟨⟨_, rfl, LeAll.refl _⟩, ⟨⟨_, rfl, LeR.refl _⟩, ⟨⟨_, rfl, LeR.refl _⟩, ⟨⟨_, rfl, LeR.refl _⟩, ⟨⟨_, rfl, ⟨Le.refl _, Le.is (by simp), trivial⟩⟩, ⟨⟨_, rfl, LeR.refl _⟩, trivial⟩⟩⟩⟩⟩⟩⟩))
          · have hb42 := of_decide_eq_false hb42
            refine SW.exit' ?_
            repeat (first | refine SE.then ?_ | refine SE.skip (by decide) ?_)
            refine SE.here ?_
            refine SN.then ?_
            refine SW.seq ?_
            refine SW.seq ?_
            refine SW.region ?_
            refine SWl.rd rfl (Rd.move rfl) ?_
            refine SWl.rd rfl (Rd.move rfl) ?_
            refine SWl.rd rfl (Rd.idxL (e := 44) 2 rfl rfl (by kernel_rfl) (by kernel_rfl) (by omega) (by simpa using he)) ?_
            refine SWl.rd rfl (Rd.loadRA 2 rfl (by kernel_rfl) (by decide) (show 2 ≤ 2 by decide) (by simp)) ?_
            refine SWl.ef (S := []) (Ef.callN [] (con_validR e.kind e.bytes.length) rfl ⟨(sees_le (Le.agg ⟨Le.refl _, le_b_len, trivial⟩)), trivial⟩ rfl) ?_
            rintro _ rfl
            refine SWl.rd rfl (Rd.not rfl) ?_
            refine SWl.nil ?_
            refine SN.then ?_
            refine SW.cond rfl (fun hb57 => ?_) (fun hb57 => ?_)
            · have hf : ¬ Led.Ent.fit e := fun hf => by simp at hb57; unfold Led.Ent.fit at hf; omega
              refine SW.seq ?_
              refine SW.seq ?_
              refine SW.region ?_
              refine SWl.rd rfl (Rd.move rfl) ?_
              refine SWl.rd rfl (Rd.nei rfl rfl) ?_
              refine SWl.rd rfl (Rd.move rfl) ?_
              refine SWl.rdg rfl rfl (by rw [ha3, if_neg hf]; rfl) rfl rfl (Rd.move rfl) ?_
              refine SWl.rdg rfl rfl (by rw [ha3, if_neg hf]; rfl) rfl rfl (Rd.nei rfl rfl) ?_
              refine SWl.rd rfl (Rd.pickN rfl (by rw [ha3, if_neg hf]; rfl) rfl) ?_
              refine SWl.nil ?_
              refine SN.then ?_
              refine SW.condF rfl (by rw [ha2, if_neg hf]; rfl) ?_
              refine SW.skip ?_
              refine SN.then ?_
              refine SW.exit' ?_
              repeat (first | refine SE.then ?_ | refine SE.skip (by decide) ?_)
              refine SE.here ?_
              refine SN.then ?_
              refine SW.region ?_
              refine SWl.rd rfl (Rd.move rfl) ?_
              refine SWl.rd rfl (Rd.add rfl rfl ⟨by omega, by omega⟩) ?_
              refine SWl.rd rfl (Rd.assign rfl) ?_
              refine SWl.nil ?_
              have hT := fits_snoc he
              rw [if_neg hf] at hT ha1
              have hA := ha1
              exact fun a w hh => hK0 (⟨(i + 1, s2, v), by simp only; omega⟩) (by simp only; omega) a w (hh.sub (⟨⟨_, rfl, ⟨⟨_, rfl, Le.refl _⟩, ⟨⟨_, rfl, Le.refl _⟩, ⟨⟨_, rfl, Le.is (by rw [hT])⟩, ⟨⟨_, rfl, Le.refl _⟩, trivial⟩⟩⟩⟩⟩, [0, 1, 2, 3], by decide, ⟨⟨_, rfl, ⟨Le.is (by rw [hT, hA]), Le.refl _, trivial⟩⟩, ⟨⟨_, rfl, leVec (by rw [hT, hA]) (by rw [hT, hA])⟩, ⟨⟨_, rfl, leMap (by rw [hT, hA]) (by rw [hT, hA])⟩, ⟨⟨_, rfl, leVec (by rw [hT]) (by rw [hT])⟩, trivial⟩⟩⟩⟩⟩))
            · have hf : Led.Ent.fit e := by simp at hb57; exact hb57
              refine SW.skip ?_
              refine SN.then ?_
              refine SW.seq ?_
              refine SW.seq ?_
              refine SW.region ?_
              refine SWl.rd rfl (Rd.move rfl) ?_
              refine SWl.rd rfl (Rd.move rfl) ?_
              refine SWl.rd rfl (Rd.lenE (e := 44) rfl (by kernel_rfl)) ?_
              refine SWl.rd rfl (Rd.nei rfl rfl) ?_
              refine SWl.rd rfl (Rd.move rfl) ?_
              refine SWl.rdg rfl rfl (by rw [ha3, if_pos hf]; simp) rfl rfl (Rd.move rfl) ?_
              refine SWl.rdg rfl rfl (by rw [ha3, if_pos hf]; simp) rfl rfl (Rd.nei rfl rfl) ?_
              refine SWl.rd rfl (Rd.pickN rfl (by rw [ha3, if_pos hf]; simp) rfl) ?_
              refine SWl.nil ?_
              refine SN.then ?_
              refine SW.condF rfl (by rw [ha2, if_pos hf]; rfl) ?_
              refine SW.skip ?_
              refine SN.then ?_
              refine SW.region ?_
              refine SWl.rd rfl (Rd.move rfl) ?_
              refine SWl.rd rfl (Rd.move rfl) ?_
              refine SWl.rd rfl (Rd.move rfl) ?_
              refine SWl.rd rfl (Rd.idxL (e := 44) 2 rfl rfl (by kernel_rfl) (by kernel_rfl) (by omega) (by simpa using he)) ?_
              refine SWl.rd rfl (Rd.loadRA 2 rfl (by kernel_rfl) (by decide) (show 2 ≤ 2 by decide) (by simp)) ?_
              refine SWl.ef (S := []) (Ef.litR rfl rfl (blsE1 e.kind e.bytes) rfl) ?_
              rintro _ rfl
              refine SWl.ef (Ef.appT 3 2 32 rfl rfl (SrcT.ls (l := [_]) rfl) (by kernel_rfl) (by kernel_rfl) (by simp; omega) (by decide) (fun _ h => h) rfl) ?_
              rintro _ ⟨A78, F78, c78, rfl⟩
              refine SWl.rd rfl (Rd.assign rfl) ?_
              refine SWl.nil ?_
              refine SN.block ?_
              refine SN.then ?_
              refine SW.region ?_
              refine SWl.rd rfl (Rd.move rfl) ?_
              refine SWl.rd rfl (Rd.add rfl rfl ⟨by omega, by omega⟩) ?_
              refine SWl.rd rfl (Rd.assign rfl) ?_
              refine SWl.nil ?_
              have hT := fits_snoc he
              rw [if_pos hf] at hT ha1
              have hA := ha1
              exact fun a w hh => hK0 (⟨(i + 1, s2, ⟨A78, c78, F78⟩), by simp only; omega⟩) (by simp only; omega) a w (hh.sub (⟨⟨_, rfl, ⟨⟨_, rfl, Le.refl _⟩, ⟨⟨_, rfl, Le.refl _⟩, ⟨⟨_, rfl, Le.is (by rw [hT])⟩, ⟨⟨_, rfl, Le.refl _⟩, trivial⟩⟩⟩⟩⟩, [0, 1, 2, 5], by decide, ⟨⟨_, rfl, ⟨Le.is (by rw [hT, hA]), Le.refl _, trivial⟩⟩, ⟨⟨_, rfl, leVec (by rw [hT, hA]) (by rw [hT, hA])⟩, ⟨⟨_, rfl, leMap (by rw [hT, hA]) (by rw [hT, hA])⟩, ⟨⟨_, rfl, leVec (by rw [hT]) (by rw [hT])⟩, trivial⟩⟩⟩⟩⟩))
    · have hb17 := of_decide_eq_false hb17
      refine SW.exit' ?_
      repeat (first | refine SE.then ?_ | refine SE.skip (by decide) ?_)
      refine SE.here ?_
      refine SN.then ?_
      refine SW.seq ?_
      refine SW.region ?_
      refine SWl.rd rfl (Rd.move rfl) ?_
      refine SWl.rd rfl (Rd.move rfl) ?_
      refine SWl.rd rfl (Rd.move rfl) ?_
      refine SWl.ef (S := []) (Ef.callN [0, 1, 2] (con_len _) rfl ⟨(sees_box 0 rfl (by decide) ⟨(sees_vec 1 rfl (by decide)), (sees_map 2 rfl (by decide)), trivial⟩), trivial⟩ rfl) ?_
      rintro _ rfl
      refine SWl.rd rfl (Rd.move rfl) ?_
      refine SWl.rd rfl (Rd.lenE (e := 44) rfl (by kernel_rfl)) ?_
      refine SWl.rd rfl (Rd.eqi rfl rfl) ?_
      refine SWl.rd rfl (Rd.assign rfl) ?_
      refine SWl.rd rfl (Rd.assign rfl) ?_
      refine SWl.rd rfl (Rd.assign rfl) ?_
      refine SWl.nil ?_
      refine SN.then ?_
      refine SW.freezeT 3 3 rfl rfl (Le.refl _) ?_
      refine SW.retR (fn := Tryd.f12) (((g13, s) : Nat × Lst)) [0, 1, 2] (fun _ _ h => h) (Rs.le (Rs.three rfl (ResV.tmp rfl) (ResV.tmp rfl) (ResV.tmp rfl)) ?_) (by decide) ⟨⟨_, rfl, ⟨Le.is (by rw [take_all (by omega)]), Le.refl _, trivial⟩⟩, ⟨⟨_, rfl, leVec (by rw [take_all (by omega)]) (by rw [take_all (by omega)])⟩, ⟨⟨_, rfl, leMap (by rw [take_all (by omega)]) (by rw [take_all (by omega)])⟩, trivial⟩⟩⟩
      exact Le.tup ⟨Le.refl _, (by rw [take_all (by omega)]; exact Le.refl _), Le.is (by simp), trivial⟩
end Sx
end Go.Proofs.YtonjpfpdpfonnaaDoor
namespace Go.Proofs.YtonjpfpdpfonnaaDoor
open Go.RowKit
namespace Sx
theorem bldE1 {k : Int} : Bld Tryd.prog 44 [0] [iD k] [iD k, isD (.slice none 0 0)] := fun L w vs hv => by
  obtain ⟨x, rfl, rfl⟩ := all1 hv
  exact ⟨[.int .i64 k, .slice none 0 0], ⟨rfl, rfl, trivial⟩, fun w' => by kernel_rfl⟩
section
variable {P : Program} {Γ : Cx} {σ : St} {Q : Exit → Act → World → Prop}
theorem SWl.lookB {ops : Array Oper} {lo : List Oper} (k : Nat) {b : List UInt8} (hk : σ.tm k = some (bD b)) (h : ∀ A cp, SWl P Γ ops Q lo ((⟨σ.tm, σ.bx ++ [.r [] (viewR (.slice A b.length cp) (cellsOf b))]⟩ : St).put k (isD (.slice A b.length cp)))) : SWl P Γ ops Q lo σ := fun a w hh => by
  obtain ⟨A, c, h1⟩ := hh.lookS hk
  rw [cellsOf_length] at h1
  exact h A c a w h1
end
theorem isView_viewB (A : Option Addr) (n c : Nat) (b : List UInt8) (h : b.length = n) : IsView (viewR (.slice A n c) (cellsOf b)) (.slice A b.length c) (cellsOf b) := by subst h; exact isView_view _ _
/-- The example's entries. -/
def kE : List Led.Ent := [⟨1, [97]⟩, ⟨2, [98]⟩, ⟨3, []⟩]
theorem kE_fit : ∀ e ∈ kE, Led.Ent.fit e := by
  intro e he
  simp only [kE, List.mem_cons, List.not_mem_nil, or_false] at he
  rcases he with rfl | rfl | rfl <;> simp [Led.Ent.fit]
theorem incl3 {l : List Led.Ent} (h : l.length = 3) : (Led.incl HH l 0).length = 2 ∧ (Led.incl HH l 2).length = 1 ∧ (Led.cons HH l 2 true).length = 1 ∧ (Led.cons HH l 1 true).length = 2 := by
  have b3 : Led.bl 3 = 2 := by decide
  have b2 : Led.bl 2 = 1 := by decide
  have t2 : (l.take 2).length = 2 := by simp; omega
  have t1 : ((l.take 2).take 1).length = 1 := by simp; omega
  have d1 : (l.drop 2).length = 1 := by simp; omega
  have c2 : Led.cons HH (l.take 2) 2 true = [] := by have := Led.cons_all HH (l := l.take 2) true (by omega); rw [t2, if_pos rfl] at this; exact this
  have c1 : Led.cons HH ((l.take 2).take 1) 1 true = [] := by have := Led.cons_all HH (l := (l.take 2).take 1) true (by omega); rw [t1, if_pos rfl] at this; exact this
  refine ⟨?_, ?_, ?_, ?_⟩
  · rw [Led.incl_step HH 0 (by omega), h, b3, if_pos (by decide), Led.incl_step HH 0 (by omega), t2, b2, if_pos (by decide), Led.incl_one HH 0 (by omega)]; rfl
  · rw [Led.incl_step HH 2 (by omega), h, b3, if_neg (by decide), Led.incl_one HH _ (by omega)]; rfl
  · rw [Led.cons_step HH true (by decide) (by omega), h, b3, if_pos (by decide), c2]; rfl
  · rw [Led.cons_step HH true (by decide) (by omega), h, b3, if_pos (by decide), Led.cons_step HH true (by decide) (by omega), t2, b2, if_pos (by decide), c1]; rfl
theorem enc_kE : encAll kE = [1, 0, 0, 0, 1, 97, 2, 0, 0, 0, 1, 98, 3, 0, 0, 0, 0] := by decide
theorem le_ls_lenD {α : Type} {enc : α → List D} {l : List α} {n : Nat} (h : l.length = n) : Le (lsD enc l) (lenD n) := by subst h; exact le_rw_len
set_option maxHeartbeats 4000000 in
set_option maxRecDepth 100000 in
theorem con_known43_e (e1 e2 e3 : List Led.Ent) (e : Led.Ent) (h1 : e1 = Led.app [] 1 [97]) (h2 : e2 = Led.app e1 2 [98]) (h3 : e3 = Led.app e2 3 []) (l1 : e1.length = 1) (l2 : e2.length = 2) (l3 : e3.length = 3) (hg : e3[1]? = some e) (hk : e.kind = 2) (hb : e.bytes = [98]) (hf : ∀ e ∈ e3, Led.Ent.fit e) (henc : encAll e3 = [1, 0, 0, 0, 1, 97, 2, 0, 0, 0, 1, 98, 3, 0, 0, 0, 0]) (r1 : Led.appI [] 1 [97] = 0 ∧ Led.appE [] 1 [97] = 0) (r2 : Led.appI e1 2 [98] = 1 ∧ Led.appE e1 2 [98] = 0) (r3 : Led.appI e2 3 [] = 2 ∧ Led.appE e2 3 [] = 0) : ConN Tryd.prog 11 [] (boolD true) := by
  refine con_ofN Tryd.func11 (by kernel_rfl) rfl (by kernel_rfl) fun base w0 => ?_
  refine SW.seq ?_
  refine SW.region ?_
  refine SWl.rd rfl (Rd.assign rfl) ?_
  refine SWl.nil ?_
  refine SN.then ?_
  refine SW.seq ?_
  refine SW.region ?_
  refine SWl.rd rfl (Rd.build rfl rfl bldL0) ?_
  refine SWl.ef (S := []) (Ef.boxA rfl rfl) ?_
  rintro _ ⟨g23, rfl⟩
  refine SWl.rd rfl (Rd.assign rfl) ?_
  refine SWl.nil ?_
  refine SN.then ?_
  refine SW.seq ?_
  refine SW.vecN 44 2 encE ?_
  refine SW.mapN encN ?_
  refine SW.region ?_
  refine SWl.rd rfl (Rd.move rfl) ?_
  refine SWl.ef (S := []) (Ef.litV (e := 5) (b := [97]) rfl rfl rfl (by decide) (fun w => by kernel_rfl) rfl) ?_
  rintro _ ⟨g26, rfl⟩
  refine SWl.ef (Ef.mark (e := 5) 3 rfl rfl (by kernel_rfl) (by kernel_rfl) (by decide) (fun _ h => h) rfl) ?_
  rintro _ rfl
  refine SWl.lookB 27 rfl fun A27 c27 => ?_
  refine SWl.rd rfl (Rd.build rfl rfl bldE2) ?_
  refine SWl.ef (Ef.callR [0, 1, 2, 3] (con_append g23 ⟨none, 0, [], none, []⟩ [] e1 1 [97] A27 c27 [] _ (isView_viewB _ _ _ _ rfl) (by decide) h1) rfl ⟨Le.refl _, Le.refl _, trivial⟩ (by decide) ⟨⟨_, rfl, LeAll.refl _⟩, ⟨⟨_, rfl, LeR.refl _⟩, ⟨⟨_, rfl, LeR.refl _⟩, ⟨⟨_, rfl, LeR.refl _⟩, trivial⟩⟩⟩⟩ (fun _ h => h) rfl) ?_
  rintro _ ⟨s29, rfl⟩
  refine SWl.rd rfl (Rd.move rfl) ?_
  refine SWl.rd rfl (Rd.extract rfl rfl) ?_
  refine SWl.rd rfl (Rd.extract rfl rfl) ?_
  refine SWl.rd rfl (Rd.assign rfl) ?_
  refine SWl.rd rfl (Rd.assign rfl) ?_
  refine SWl.nil ?_
  refine SN.then ?_
  refine SW.seq ?_
  refine SW.sub (σ' := St.ob [(1, isD (.pointer (some ⟨g23, 0, none⟩))), (2, iD 0), (3, iD 0)] [.c g23 [isD (.slice s29.A (e1).length s29.c), isD (.map s29.M)], ledE s29 (e1), ledM s29 (e1)]) (⟨⟨_, rfl, ⟨⟨_, rfl, Le.refl _⟩, ⟨⟨_, rfl, Le.is (by rw [r1.1])⟩, ⟨⟨_, rfl, Le.is (by rw [r1.2])⟩, trivial⟩⟩⟩⟩, [0, 1, 2], by decide, ⟨⟨_, rfl, LeAll.refl _⟩, ⟨⟨_, rfl, LeR.refl _⟩, ⟨⟨_, rfl, LeR.refl _⟩, trivial⟩⟩⟩⟩) ?_
  refine SW.region ?_
  refine SWl.rd rfl (Rd.move rfl) ?_
  refine SWl.ef (S := []) (Ef.litV (e := 5) (b := [98]) rfl rfl rfl (by decide) (fun w => by kernel_rfl) rfl) ?_
  rintro _ ⟨g34, rfl⟩
  refine SWl.ef (Ef.mark (e := 5) 3 rfl rfl (by kernel_rfl) (by kernel_rfl) (by decide) (fun _ h => h) rfl) ?_
  rintro _ rfl
  refine SWl.lookB 35 rfl fun A35 c35 => ?_
  refine SWl.rd rfl (Rd.build rfl rfl bldE2) ?_
  refine SWl.ef (Ef.callR [0, 1, 2, 3] (con_append g23 s29 e1 e2 2 [98] A35 c35 [] _ (isView_viewB _ _ _ _ rfl) (by omega) h2) rfl ⟨Le.refl _, Le.refl _, trivial⟩ (by decide) ⟨⟨_, rfl, LeAll.refl _⟩, ⟨⟨_, rfl, LeR.refl _⟩, ⟨⟨_, rfl, LeR.refl _⟩, ⟨⟨_, rfl, LeR.refl _⟩, trivial⟩⟩⟩⟩ (fun _ h => h) rfl) ?_
  rintro _ ⟨s37, rfl⟩
  refine SWl.rd rfl (Rd.move rfl) ?_
  refine SWl.rd rfl (Rd.extract rfl rfl) ?_
  refine SWl.rd rfl (Rd.extract rfl rfl) ?_
  refine SWl.rd rfl (Rd.assign rfl) ?_
  refine SWl.rd rfl (Rd.assign rfl) ?_
  refine SWl.nil ?_
  refine SN.then ?_
  refine SW.seq ?_
  refine SW.sub (σ' := St.ob [(1, isD (.pointer (some ⟨g23, 0, none⟩))), (2, iD 0), (3, iD 0), (4, iD 1), (5, iD 0)] [.c g23 [isD (.slice s37.A (e2).length s37.c), isD (.map s37.M)], ledE s37 (e2), ledM s37 (e2)]) (⟨⟨_, rfl, ⟨⟨_, rfl, Le.refl _⟩, ⟨⟨_, rfl, Le.refl _⟩, ⟨⟨_, rfl, Le.refl _⟩, ⟨⟨_, rfl, Le.is (by rw [r2.1])⟩, ⟨⟨_, rfl, Le.is (by rw [r2.2])⟩, trivial⟩⟩⟩⟩⟩⟩, [0, 1, 2], by decide, ⟨⟨_, rfl, LeAll.refl _⟩, ⟨⟨_, rfl, LeR.refl _⟩, ⟨⟨_, rfl, LeR.refl _⟩, trivial⟩⟩⟩⟩) ?_
  refine SW.vecN 5 1 encB ?_
  refine SW.region ?_
  refine SWl.rd rfl (Rd.move rfl) ?_
  refine SWl.rd rfl (Rd.build rfl rfl bldE1) ?_
  refine SWl.ef (Ef.callR [0, 1, 2, 3] (con_append g23 s37 e2 e3 3 [] none 0 [] _ isView_vec (by omega) h3) rfl ⟨Le.refl _, Le.refl _, trivial⟩ (by decide) ⟨⟨_, rfl, LeAll.refl _⟩, ⟨⟨_, rfl, LeR.refl _⟩, ⟨⟨_, rfl, LeR.refl _⟩, ⟨⟨_, rfl, LeR.refl _⟩, trivial⟩⟩⟩⟩ (fun _ h => h) rfl) ?_
  rintro _ ⟨s43, rfl⟩
  refine SWl.rd rfl (Rd.move rfl) ?_
  refine SWl.rd rfl (Rd.extract rfl rfl) ?_
  refine SWl.rd rfl (Rd.extract rfl rfl) ?_
  refine SWl.rd rfl (Rd.assign rfl) ?_
  refine SWl.rd rfl (Rd.assign rfl) ?_
  refine SWl.nil ?_
  refine SN.then ?_
  refine SW.seq ?_
  refine SW.sub (σ' := St.ob [(1, isD (.pointer (some ⟨g23, 0, none⟩))), (2, iD 0), (3, iD 0), (4, iD 1), (5, iD 0), (6, iD 2), (7, iD 0)] [.c g23 [isD (.slice s43.A (e3).length s43.c), isD (.map s43.M)], ledE s43 (e3), ledM s43 (e3)]) (⟨⟨_, rfl, ⟨⟨_, rfl, Le.refl _⟩, ⟨⟨_, rfl, Le.refl _⟩, ⟨⟨_, rfl, Le.refl _⟩, ⟨⟨_, rfl, Le.refl _⟩, ⟨⟨_, rfl, Le.refl _⟩, ⟨⟨_, rfl, Le.is (by rw [r3.1])⟩, ⟨⟨_, rfl, Le.is (by rw [r3.2])⟩, trivial⟩⟩⟩⟩⟩⟩⟩⟩, [0, 1, 2], by decide, ⟨⟨_, rfl, LeAll.refl _⟩, ⟨⟨_, rfl, LeR.refl _⟩, ⟨⟨_, rfl, LeR.refl _⟩, trivial⟩⟩⟩⟩) ?_
  refine SW.region ?_
  refine SWl.rd rfl (Rd.move rfl) ?_
  refine SWl.ef (S := []) (Ef.callN [0, 1, 2] (con_at e3 1 e hg (by rw [hb]; decide)) rfl ⟨(sees_box 0 rfl (by decide) ⟨(sees_vec 1 rfl (by decide)), (sees_map 2 rfl (by decide)), trivial⟩), (sees_le (Le.refl _)), trivial⟩ rfl) ?_
  rintro _ rfl
  refine SWl.rd rfl (Rd.move rfl) ?_
  refine SWl.rd rfl (Rd.extract rfl rfl) ?_
  refine SWl.rd rfl (Rd.extract rfl rfl) ?_
  refine SWl.ef (S := []) (Ef.alloc (zs := [.int .i64 0, .slice none 0 0]) (by kernel_rfl) rfl) ?_
  rintro _ ⟨g8, rfl⟩
  refine SWl.ef (S := [_]) (Ef.storeA 3 rfl rfl rfl (by kernel_rfl) rfl (List.mem_singleton.2 rfl)) ?_
  rintro _ rfl
  refine SWl.rd rfl (Rd.assign rfl) ?_
  refine SWl.nil ?_
  refine SN.then ?_
  refine SW.seq ?_
  refine SW.sub (σ' := St.ob [(1, isD (.pointer (some ⟨g23, 0, none⟩))), (2, iD 0), (3, iD 0), (4, iD 1), (5, iD 0), (6, iD 2), (7, iD 0), (8, isD (.pointer (some ⟨g8, 0, none⟩))), (9, iD 0)] [.c g23 [isD (.slice s43.A (e3).length s43.c), isD (.map s43.M)], ledE s43 (e3), ledM s43 (e3), .c g8 [iD e.kind, bD e.bytes]]) (⟨⟨_, rfl, ⟨⟨_, rfl, Le.refl _⟩, ⟨⟨_, rfl, Le.refl _⟩, ⟨⟨_, rfl, Le.refl _⟩, ⟨⟨_, rfl, Le.refl _⟩, ⟨⟨_, rfl, Le.refl _⟩, ⟨⟨_, rfl, Le.refl _⟩, ⟨⟨_, rfl, Le.refl _⟩, ⟨⟨_, rfl, Le.refl _⟩, ⟨⟨_, rfl, Le.refl _⟩, trivial⟩⟩⟩⟩⟩⟩⟩⟩⟩⟩, [0, 1, 2, 3], by decide, ⟨⟨_, rfl, LeAll.refl _⟩, ⟨⟨_, rfl, LeR.refl _⟩, ⟨⟨_, rfl, LeR.refl _⟩, ⟨⟨_, rfl, LeAll.refl _⟩, trivial⟩⟩⟩⟩⟩) ?_
  refine SW.region ?_
  refine SWl.rd rfl (Rd.move rfl) ?_
  refine SWl.ef (S := []) (Ef.callN [0, 1, 2] (con_at_no e3 3 (.inr (by omega))) rfl ⟨(sees_box 0 rfl (by decide) ⟨(sees_vec 1 rfl (by decide)), (sees_map 2 rfl (by decide)), trivial⟩), (sees_le (Le.refl _)), trivial⟩ rfl) ?_
  rintro _ rfl
  refine SWl.rd rfl (Rd.move rfl) ?_
  refine SWl.rd rfl (Rd.extract rfl rfl) ?_
  refine SWl.rd rfl (Rd.extract rfl rfl) ?_
  refine SWl.ef (S := []) (Ef.alloc (zs := [.int .i64 0, .slice none 0 0]) (by kernel_rfl) rfl) ?_
  rintro _ ⟨g10, rfl⟩
  refine SWl.ef (S := [_]) (Ef.storeA 4 rfl rfl rfl (by kernel_rfl) rfl (List.mem_singleton.2 rfl)) ?_
  rintro _ rfl
  refine SWl.rd rfl (Rd.assign rfl) ?_
  refine SWl.nil ?_
  refine SN.then ?_
  refine SW.seq ?_
  refine SW.seq ?_
  refine SW.sub (σ' := St.ob [(1, isD (.pointer (some ⟨g23, 0, none⟩))), (2, iD 0), (3, iD 0), (4, iD 1), (5, iD 0), (6, iD 2), (7, iD 0), (8, isD (.pointer (some ⟨g8, 0, none⟩))), (9, iD 0), (11, iD 3)] [.c g23 [isD (.slice s43.A (e3).length s43.c), isD (.map s43.M)], ledE s43 (e3), ledM s43 (e3), .c g8 [iD e.kind, bD e.bytes]]) (⟨⟨_, rfl, ⟨⟨_, rfl, Le.refl _⟩, ⟨⟨_, rfl, Le.refl _⟩, ⟨⟨_, rfl, Le.refl _⟩, ⟨⟨_, rfl, Le.refl _⟩, ⟨⟨_, rfl, Le.refl _⟩, ⟨⟨_, rfl, Le.refl _⟩, ⟨⟨_, rfl, Le.refl _⟩, ⟨⟨_, rfl, Le.refl _⟩, ⟨⟨_, rfl, Le.refl _⟩, ⟨⟨_, rfl, Le.refl _⟩, trivial⟩⟩⟩⟩⟩⟩⟩⟩⟩⟩⟩, [0, 1, 2, 3], by decide, ⟨⟨_, rfl, LeAll.refl _⟩, ⟨⟨_, rfl, LeR.refl _⟩, ⟨⟨_, rfl, LeR.refl _⟩, ⟨⟨_, rfl, LeAll.refl _⟩, trivial⟩⟩⟩⟩⟩) ?_
  refine SW.region ?_
  refine SWl.rd rfl (Rd.move rfl) ?_
  refine SWl.rd rfl (Rd.nei rfl rfl) ?_
  refine SWl.rd rfl (Rd.move rfl) ?_
  refine SWl.rdg rfl rfl (by rfl) rfl rfl (Rd.move rfl) ?_
  refine SWl.rdg rfl rfl (by rfl) rfl rfl (Rd.nei rfl rfl) ?_
  refine SWl.rd rfl (Rd.pickN rfl (by rfl) rfl) ?_
  refine SWl.rd rfl (Rd.move rfl) ?_
  refine SWl.rdg rfl rfl (by rfl) rfl rfl (Rd.move rfl) ?_
  refine SWl.rdg rfl rfl (by rfl) rfl rfl (Rd.nei rfl rfl) ?_
  refine SWl.rd rfl (Rd.pickN rfl (by rfl) rfl) ?_
  refine SWl.rd rfl (Rd.move rfl) ?_
  refine SWl.rdg rfl rfl (by rfl) rfl rfl (Rd.move rfl) ?_
  refine SWl.rdg rfl rfl (by rfl) rfl rfl (Rd.nei rfl rfl) ?_
  refine SWl.rd rfl (Rd.pickN rfl (by rfl) rfl) ?_
  refine SWl.rd rfl (Rd.move rfl) ?_
  refine SWl.rdg rfl rfl (by rfl) rfl rfl (Rd.move rfl) ?_
  refine SWl.rdg rfl rfl (by rfl) rfl rfl (Rd.nei rfl rfl) ?_
  refine SWl.rd rfl (Rd.pickN rfl (by rfl) rfl) ?_
  refine SWl.rd rfl (Rd.move rfl) ?_
  refine SWl.rdg rfl rfl (by rfl) rfl rfl (Rd.move rfl) ?_
  refine SWl.rdg rfl rfl (by rfl) rfl rfl (Rd.nei rfl rfl) ?_
  refine SWl.rd rfl (Rd.pickN rfl (by rfl) rfl) ?_
  refine SWl.rd rfl (Rd.move rfl) ?_
  refine SWl.rdg rfl rfl (by rfl) rfl rfl (Rd.move rfl) ?_
  refine SWl.rdg rfl rfl (by rfl) rfl rfl (Rd.nei rfl rfl) ?_
  refine SWl.rd rfl (Rd.pickN rfl (by rfl) rfl) ?_
  refine SWl.rd rfl (Rd.move rfl) ?_
  refine SWl.rdg rfl rfl (by rfl) rfl rfl (Rd.move rfl) ?_
  refine SWl.rdg rfl rfl (by rfl) rfl rfl (Rd.nei rfl rfl) ?_
  refine SWl.rd rfl (Rd.pickN rfl (by rfl) rfl) ?_
  refine SWl.rd rfl (Rd.move rfl) ?_
  refine SWl.rdg rfl rfl (by rfl) rfl rfl (Rd.move rfl) ?_
  refine SWl.efg (S := []) rfl rfl (by rfl) rfl (Ef.callN [0, 1, 2] (con_len e3) rfl ⟨(sees_box 0 rfl (by decide) ⟨(sees_vec 1 rfl (by decide)), (sees_map 2 rfl (by decide)), trivial⟩), trivial⟩ rfl) ?_
  rintro _ rfl
  refine SWl.rdg rfl rfl (by rfl) rfl rfl (Rd.nei rfl rfl) ?_
  refine SWl.rd rfl (Rd.pickN rfl (by rfl) rfl) ?_
  refine SWl.rd rfl (Rd.move rfl) ?_
  refine SWl.rdg rfl rfl (by rw [l3]; rfl) rfl rfl (Rd.fieldAddr (n := 0) rfl (by kernel_rfl)) ?_
  refine SWl.rdg rfl rfl (by rw [l3]; rfl) rfl rfl (Rd.loadB 3 rfl rfl rfl (by kernel_rfl) ap_nil) ?_
  refine SWl.rdg rfl rfl (by rw [l3]; rfl) rfl rfl (Rd.nei rfl rfl) ?_
  refine SWl.rd rfl (Rd.pickN rfl (by rw [l3]; rfl) rfl) ?_
  refine SWl.rd rfl (Rd.move rfl) ?_
  refine SWl.rdg rfl rfl (by rw [hk]; rfl) rfl rfl (Rd.fieldAddr (n := 1) rfl (by kernel_rfl)) ?_
  refine SWl.rdg rfl rfl (by rw [hk]; rfl) rfl rfl (Rd.loadB 3 rfl rfl rfl (by kernel_rfl) ap_nil) ?_
  refine SWl.rdg rfl rfl (by rw [hk]; rfl) rfl rfl (Rd.str (e := 5) rfl (by kernel_rfl) (by kernel_rfl) (by kernel_rfl) (by simp)) ?_
  refine SWl.rdg rfl rfl (by rw [hk]; rfl) rfl rfl (Rd.nes (p := e.bytes) (q := [98]) rfl rfl) ?_
  refine SWl.rd rfl (Rd.pickN rfl (by rw [hk]; rfl) rfl) ?_
  refine SWl.nil ?_
  refine SN.then ?_
  refine SW.condF rfl (by rw [hb]; rfl) ?_
  refine SW.skip ?_
  refine SN.then ?_
  refine SW.seq ?_
  refine SW.sub (σ' := St.ob [(1, isD (.pointer (some ⟨g23, 0, none⟩)))] [.c g23 [isD (.slice s43.A (e3).length s43.c), isD (.map s43.M)], ledE s43 (e3), ledM s43 (e3)]) (⟨⟨_, rfl, ⟨⟨_, rfl, Le.refl _⟩, trivial⟩⟩, [0, 1, 2], by decide, ⟨⟨_, rfl, LeAll.refl _⟩, ⟨⟨_, rfl, LeR.refl _⟩, ⟨⟨_, rfl, LeR.refl _⟩, trivial⟩⟩⟩⟩) ?_
  refine SW.region ?_
  refine SWl.rd rfl (Rd.move rfl) ?_
  refine SWl.ef (S := []) (Ef.callN [0, 1, 2] (con_inclusion e3 (by omega) 0 3 (by omega) (by omega)) rfl ⟨(sees_box 0 rfl (by decide) ⟨(sees_vec 1 rfl (by decide)), (sees_map 2 rfl (by decide)), trivial⟩), (sees_le (Le.refl _)), (sees_le (Le.refl _)), trivial⟩ rfl) ?_
  rintro _ rfl
  refine SWl.rd rfl (Rd.move rfl) ?_
  refine SWl.rd rfl (Rd.extract rfl rfl) ?_
  refine SWl.rd rfl (Rd.extract rfl rfl) ?_
  refine SWl.ef (S := []) (Ef.alloc (zs := [.slice none 0 0]) (by kernel_rfl) rfl) ?_
  rintro _ ⟨g12, rfl⟩
  refine SWl.ef (S := [_]) (Ef.storeA 3 rfl rfl rfl (by kernel_rfl) rfl (List.mem_singleton.2 rfl)) ?_
  rintro _ rfl
  refine SWl.rd rfl (Rd.assign rfl) ?_
  refine SWl.nil ?_
  refine SN.then ?_
  refine SW.seq ?_
  refine SW.sub (σ' := St.ob [(1, isD (.pointer (some ⟨g23, 0, none⟩))), (12, isD (.pointer (some ⟨g12, 0, none⟩))), (13, iD 0)] [.c g23 [isD (.slice s43.A (e3).length s43.c), isD (.map s43.M)], ledE s43 (e3), ledM s43 (e3), .c g12 [lenD 2]]) (⟨⟨_, rfl, ⟨⟨_, rfl, Le.refl _⟩, ⟨⟨_, rfl, Le.refl _⟩, ⟨⟨_, rfl, Le.refl _⟩, trivial⟩⟩⟩⟩, [0, 1, 2, 3], by decide, ⟨⟨_, rfl, LeAll.refl _⟩, ⟨⟨_, rfl, LeR.refl _⟩, ⟨⟨_, rfl, LeR.refl _⟩, ⟨⟨_, rfl, ⟨le_ls_lenD (by exact (incl3 (l := e3.take 3) (by simp; omega)).1), trivial⟩⟩, trivial⟩⟩⟩⟩⟩) ?_
  refine SW.region ?_
  refine SWl.rd rfl (Rd.move rfl) ?_
  refine SWl.ef (S := []) (Ef.callN [0, 1, 2] (con_inclusion e3 (by omega) 2 3 (by omega) (by omega)) rfl ⟨(sees_box 0 rfl (by decide) ⟨(sees_vec 1 rfl (by decide)), (sees_map 2 rfl (by decide)), trivial⟩), (sees_le (Le.refl _)), (sees_le (Le.refl _)), trivial⟩ rfl) ?_
  rintro _ rfl
  refine SWl.rd rfl (Rd.move rfl) ?_
  refine SWl.rd rfl (Rd.extract rfl rfl) ?_
  refine SWl.rd rfl (Rd.extract rfl rfl) ?_
  refine SWl.ef (S := []) (Ef.alloc (zs := [.slice none 0 0]) (by kernel_rfl) rfl) ?_
  rintro _ ⟨g14, rfl⟩
  refine SWl.ef (S := [_]) (Ef.storeA 4 rfl rfl rfl (by kernel_rfl) rfl (List.mem_singleton.2 rfl)) ?_
  rintro _ rfl
  refine SWl.rd rfl (Rd.assign rfl) ?_
  refine SWl.nil ?_
  refine SN.then ?_
  refine SW.seq ?_
  refine SW.sub (σ' := St.ob [(1, isD (.pointer (some ⟨g23, 0, none⟩))), (12, isD (.pointer (some ⟨g12, 0, none⟩))), (14, isD (.pointer (some ⟨g14, 0, none⟩))), (13, iD 0), (15, iD 0)] [.c g23 [isD (.slice s43.A (e3).length s43.c), isD (.map s43.M)], ledE s43 (e3), ledM s43 (e3), .c g12 [lenD 2], .c g14 [lenD 1]]) (⟨⟨_, rfl, ⟨⟨_, rfl, Le.refl _⟩, ⟨⟨_, rfl, Le.refl _⟩, ⟨⟨_, rfl, Le.refl _⟩, ⟨⟨_, rfl, Le.refl _⟩, ⟨⟨_, rfl, Le.refl _⟩, trivial⟩⟩⟩⟩⟩⟩, [0, 1, 2, 3, 4], by decide, ⟨⟨_, rfl, LeAll.refl _⟩, ⟨⟨_, rfl, LeR.refl _⟩, ⟨⟨_, rfl, LeR.refl _⟩, ⟨⟨_, rfl, LeAll.refl _⟩, ⟨⟨_, rfl, ⟨le_ls_lenD (by exact (incl3 (l := e3.take 3) (by simp; omega)).2.1), trivial⟩⟩, trivial⟩⟩⟩⟩⟩⟩) ?_
  refine SW.region ?_
  refine SWl.rd rfl (Rd.move rfl) ?_
  refine SWl.ef (S := []) (Ef.callN [0, 1, 2] (con_consistency e3 (by omega) 2 3 (by decide) (by omega) (by omega)) rfl ⟨(sees_box 0 rfl (by decide) ⟨(sees_vec 1 rfl (by decide)), (sees_map 2 rfl (by decide)), trivial⟩), (sees_le (Le.refl _)), (sees_le (Le.refl _)), trivial⟩ rfl) ?_
  rintro _ rfl
  refine SWl.rd rfl (Rd.move rfl) ?_
  refine SWl.rd rfl (Rd.extract rfl rfl) ?_
  refine SWl.rd rfl (Rd.extract rfl rfl) ?_
  refine SWl.ef (S := []) (Ef.alloc (zs := [.slice none 0 0]) (by kernel_rfl) rfl) ?_
  rintro _ ⟨g16, rfl⟩
  refine SWl.ef (S := [_]) (Ef.storeA 5 rfl rfl rfl (by kernel_rfl) rfl (List.mem_singleton.2 rfl)) ?_
  rintro _ rfl
  refine SWl.rd rfl (Rd.assign rfl) ?_
  refine SWl.nil ?_
  refine SN.then ?_
  refine SW.seq ?_
  refine SW.sub (σ' := St.ob [(1, isD (.pointer (some ⟨g23, 0, none⟩))), (12, isD (.pointer (some ⟨g12, 0, none⟩))), (14, isD (.pointer (some ⟨g14, 0, none⟩))), (16, isD (.pointer (some ⟨g16, 0, none⟩))), (13, iD 0), (15, iD 0), (17, iD 0)] [.c g23 [isD (.slice s43.A (e3).length s43.c), isD (.map s43.M)], ledE s43 (e3), ledM s43 (e3), .c g12 [lenD 2], .c g14 [lenD 1], .c g16 [lenD 1]]) (⟨⟨_, rfl, ⟨⟨_, rfl, Le.refl _⟩, ⟨⟨_, rfl, Le.refl _⟩, ⟨⟨_, rfl, Le.refl _⟩, ⟨⟨_, rfl, Le.refl _⟩, ⟨⟨_, rfl, Le.refl _⟩, ⟨⟨_, rfl, Le.refl _⟩, ⟨⟨_, rfl, Le.refl _⟩, trivial⟩⟩⟩⟩⟩⟩⟩⟩, [0, 1, 2, 3, 4, 5], by decide, ⟨⟨_, rfl, LeAll.refl _⟩, ⟨⟨_, rfl, LeR.refl _⟩, ⟨⟨_, rfl, LeR.refl _⟩, ⟨⟨_, rfl, LeAll.refl _⟩, ⟨⟨_, rfl, LeAll.refl _⟩, ⟨⟨_, rfl, ⟨le_ls_lenD (by exact (incl3 (l := e3.take 3) (by simp; omega)).2.2.1), trivial⟩⟩, trivial⟩⟩⟩⟩⟩⟩⟩) ?_
  refine SW.region ?_
  refine SWl.rd rfl (Rd.move rfl) ?_
  refine SWl.ef (S := []) (Ef.callN [0, 1, 2] (con_consistency e3 (by omega) 1 3 (by decide) (by omega) (by omega)) rfl ⟨(sees_box 0 rfl (by decide) ⟨(sees_vec 1 rfl (by decide)), (sees_map 2 rfl (by decide)), trivial⟩), (sees_le (Le.refl _)), (sees_le (Le.refl _)), trivial⟩ rfl) ?_
  rintro _ rfl
  refine SWl.rd rfl (Rd.move rfl) ?_
  refine SWl.rd rfl (Rd.extract rfl rfl) ?_
  refine SWl.rd rfl (Rd.extract rfl rfl) ?_
  refine SWl.ef (S := []) (Ef.alloc (zs := [.slice none 0 0]) (by kernel_rfl) rfl) ?_
  rintro _ ⟨g18, rfl⟩
  refine SWl.ef (S := [_]) (Ef.storeA 6 rfl rfl rfl (by kernel_rfl) rfl (List.mem_singleton.2 rfl)) ?_
  rintro _ rfl
  refine SWl.rd rfl (Rd.assign rfl) ?_
  refine SWl.nil ?_
  refine SN.then ?_
  refine SW.seq ?_
  refine SW.sub (σ' := St.ob [(1, isD (.pointer (some ⟨g23, 0, none⟩))), (12, isD (.pointer (some ⟨g12, 0, none⟩))), (14, isD (.pointer (some ⟨g14, 0, none⟩))), (16, isD (.pointer (some ⟨g16, 0, none⟩))), (18, isD (.pointer (some ⟨g18, 0, none⟩))), (13, iD 0), (15, iD 0), (17, iD 0), (19, iD 0)] [.c g23 [isD (.slice s43.A (e3).length s43.c), isD (.map s43.M)], ledE s43 (e3), ledM s43 (e3), .c g12 [lenD 2], .c g14 [lenD 1], .c g16 [lenD 1], .c g18 [lenD 2]]) (⟨⟨_, rfl, ⟨⟨_, rfl, Le.refl _⟩, ⟨⟨_, rfl, Le.refl _⟩, ⟨⟨_, rfl, Le.refl _⟩, ⟨⟨_, rfl, Le.refl _⟩, ⟨⟨_, rfl, Le.refl _⟩, ⟨⟨_, rfl, Le.refl _⟩, ⟨⟨_, rfl, Le.refl _⟩, ⟨⟨_, rfl, Le.refl _⟩, ⟨⟨_, rfl, Le.refl _⟩, trivial⟩⟩⟩⟩⟩⟩⟩⟩⟩⟩, [0, 1, 2, 3, 4, 5, 6], by decide, ⟨⟨_, rfl, LeAll.refl _⟩, ⟨⟨_, rfl, LeR.refl _⟩, ⟨⟨_, rfl, LeR.refl _⟩, ⟨⟨_, rfl, LeAll.refl _⟩, ⟨⟨_, rfl, LeAll.refl _⟩, ⟨⟨_, rfl, LeAll.refl _⟩, ⟨⟨_, rfl, ⟨le_ls_lenD (by exact (incl3 (l := e3.take 3) (by simp; omega)).2.2.2), trivial⟩⟩, trivial⟩⟩⟩⟩⟩⟩⟩⟩) ?_
  refine SW.region ?_
  refine SWl.rd rfl (Rd.move rfl) ?_
  refine SWl.ef (S := []) (Ef.callN [0, 1, 2] (con_consistency_0 e3 3 (by omega)) rfl ⟨(sees_box 0 rfl (by decide) ⟨(sees_vec 1 rfl (by decide)), (sees_map 2 rfl (by decide)), trivial⟩), (sees_le (Le.refl _)), (sees_le (Le.refl _)), trivial⟩ rfl) ?_
  rintro _ rfl
  refine SWl.rd rfl (Rd.move rfl) ?_
  refine SWl.rd rfl (Rd.extract rfl rfl) ?_
  refine SWl.rd rfl (Rd.extract rfl rfl) ?_
  refine SWl.ef (S := []) (Ef.alloc (zs := [.slice none 0 0]) (by kernel_rfl) rfl) ?_
  rintro _ ⟨g20, rfl⟩
  refine SWl.ef (S := [_]) (Ef.storeA 7 rfl rfl rfl (by kernel_rfl) rfl (List.mem_singleton.2 rfl)) ?_
  rintro _ rfl
  refine SWl.rd rfl (Rd.assign rfl) ?_
  refine SWl.nil ?_
  refine SN.then ?_
  refine SW.seq ?_
  refine SW.sub (σ' := St.ob [(1, isD (.pointer (some ⟨g23, 0, none⟩))), (12, isD (.pointer (some ⟨g12, 0, none⟩))), (14, isD (.pointer (some ⟨g14, 0, none⟩))), (16, isD (.pointer (some ⟨g16, 0, none⟩))), (18, isD (.pointer (some ⟨g18, 0, none⟩))), (20, isD (.pointer (some ⟨g20, 0, none⟩))), (13, iD 0), (15, iD 0), (17, iD 0), (19, iD 0), (21, iD 0)] [.c g23 [isD (.slice s43.A (e3).length s43.c), isD (.map s43.M)], ledE s43 (e3), ledM s43 (e3), .c g12 [lenD 2], .c g14 [lenD 1], .c g16 [lenD 1], .c g18 [lenD 2], .c g20 [lenD 0]]) (⟨⟨_, rfl, ⟨⟨_, rfl, Le.refl _⟩, ⟨⟨_, rfl, Le.refl _⟩, ⟨⟨_, rfl, Le.refl _⟩, ⟨⟨_, rfl, Le.refl _⟩, ⟨⟨_, rfl, Le.refl _⟩, ⟨⟨_, rfl, Le.refl _⟩, ⟨⟨_, rfl, Le.refl _⟩, ⟨⟨_, rfl, Le.refl _⟩, ⟨⟨_, rfl, Le.refl _⟩, ⟨⟨_, rfl, Le.refl _⟩, ⟨⟨_, rfl, Le.refl _⟩, trivial⟩⟩⟩⟩⟩⟩⟩⟩⟩⟩⟩⟩, [0, 1, 2, 3, 4, 5, 6, 7], by decide, ⟨⟨_, rfl, LeAll.refl _⟩, ⟨⟨_, rfl, LeR.refl _⟩, ⟨⟨_, rfl, LeR.refl _⟩, ⟨⟨_, rfl, LeAll.refl _⟩, ⟨⟨_, rfl, LeAll.refl _⟩, ⟨⟨_, rfl, LeAll.refl _⟩, ⟨⟨_, rfl, LeAll.refl _⟩, ⟨⟨_, rfl, ⟨le_ls_lenD (by rfl), trivial⟩⟩, trivial⟩⟩⟩⟩⟩⟩⟩⟩⟩) ?_
  refine SW.region ?_
  refine SWl.rd rfl (Rd.move rfl) ?_
  refine SWl.rd rfl (Rd.eqi rfl rfl) ?_
  refine SWl.rd rfl (Rd.move rfl) ?_
  refine SWl.rdg rfl rfl (by rfl) rfl rfl (Rd.move rfl) ?_
  refine SWl.rdg rfl rfl (by rfl) rfl rfl (Rd.eqi rfl rfl) ?_
  refine SWl.rd rfl (Rd.pickY rfl (by rfl) rfl) ?_
  refine SWl.rd rfl (Rd.move rfl) ?_
  refine SWl.rdg rfl rfl (by rfl) rfl rfl (Rd.move rfl) ?_
  refine SWl.rdg rfl rfl (by rfl) rfl rfl (Rd.eqi rfl rfl) ?_
  refine SWl.rd rfl (Rd.pickY rfl (by rfl) rfl) ?_
  refine SWl.rd rfl (Rd.move rfl) ?_
  refine SWl.rdg rfl rfl (by rfl) rfl rfl (Rd.move rfl) ?_
  refine SWl.rdg rfl rfl (by rfl) rfl rfl (Rd.eqi rfl rfl) ?_
  refine SWl.rd rfl (Rd.pickY rfl (by rfl) rfl) ?_
  refine SWl.rd rfl (Rd.move rfl) ?_
  refine SWl.rdg rfl rfl (by rfl) rfl rfl (Rd.move rfl) ?_
  refine SWl.rdg rfl rfl (by rfl) rfl rfl (Rd.eqi rfl rfl) ?_
  refine SWl.rd rfl (Rd.pickY rfl (by rfl) rfl) ?_
  refine SWl.rd rfl (Rd.move rfl) ?_
  refine SWl.rdg rfl rfl (by rfl) rfl rfl (Rd.fieldAddr (n := 0) rfl (by kernel_rfl)) ?_
  refine SWl.rdg rfl rfl (by rfl) rfl rfl (Rd.loadB 3 rfl rfl rfl (by kernel_rfl) ap_nil) ?_
  refine SWl.rdg rfl rfl (by rfl) rfl rfl (Rd.lenN (e := 28) rfl (by kernel_rfl)) ?_
  refine SWl.rdg rfl rfl (by rfl) rfl rfl (Rd.eqi rfl rfl) ?_
  refine SWl.rd rfl (Rd.pickY rfl (by rfl) rfl) ?_
  refine SWl.rd rfl (Rd.move rfl) ?_
  refine SWl.rdg rfl rfl (by rfl) rfl rfl (Rd.fieldAddr (n := 0) rfl (by kernel_rfl)) ?_
  refine SWl.rdg rfl rfl (by rfl) rfl rfl (Rd.loadB 4 rfl rfl rfl (by kernel_rfl) ap_nil) ?_
  refine SWl.rdg rfl rfl (by rfl) rfl rfl (Rd.lenN (e := 28) rfl (by kernel_rfl)) ?_
  refine SWl.rdg rfl rfl (by rfl) rfl rfl (Rd.eqi rfl rfl) ?_
  refine SWl.rd rfl (Rd.pickY rfl (by rfl) rfl) ?_
  refine SWl.rd rfl (Rd.move rfl) ?_
  refine SWl.rdg rfl rfl (by rfl) rfl rfl (Rd.fieldAddr (n := 0) rfl (by kernel_rfl)) ?_
  refine SWl.rdg rfl rfl (by rfl) rfl rfl (Rd.loadB 5 rfl rfl rfl (by kernel_rfl) ap_nil) ?_
  refine SWl.rdg rfl rfl (by rfl) rfl rfl (Rd.lenN (e := 28) rfl (by kernel_rfl)) ?_
  refine SWl.rdg rfl rfl (by rfl) rfl rfl (Rd.eqi rfl rfl) ?_
  refine SWl.rd rfl (Rd.pickY rfl (by rfl) rfl) ?_
  refine SWl.rd rfl (Rd.move rfl) ?_
  refine SWl.rdg rfl rfl (by rfl) rfl rfl (Rd.fieldAddr (n := 0) rfl (by kernel_rfl)) ?_
  refine SWl.rdg rfl rfl (by rfl) rfl rfl (Rd.loadB 6 rfl rfl rfl (by kernel_rfl) ap_nil) ?_
  refine SWl.rdg rfl rfl (by rfl) rfl rfl (Rd.lenN (e := 28) rfl (by kernel_rfl)) ?_
  refine SWl.rdg rfl rfl (by rfl) rfl rfl (Rd.eqi rfl rfl) ?_
  refine SWl.rd rfl (Rd.pickY rfl (by rfl) rfl) ?_
  refine SWl.rd rfl (Rd.move rfl) ?_
  refine SWl.rdg rfl rfl (by rfl) rfl rfl (Rd.fieldAddr (n := 0) rfl (by kernel_rfl)) ?_
  refine SWl.rdg rfl rfl (by rfl) rfl rfl (Rd.loadB 7 rfl rfl rfl (by kernel_rfl) ap_nil) ?_
  refine SWl.rdg rfl rfl (by rfl) rfl rfl (Rd.lenN (e := 28) rfl (by kernel_rfl)) ?_
  refine SWl.rdg rfl rfl (by rfl) rfl rfl (Rd.eqi rfl rfl) ?_
  refine SWl.rd rfl (Rd.pickY rfl (by rfl) rfl) ?_
  refine SWl.rd rfl (Rd.move rfl) ?_
  refine SWl.rdg rfl rfl (by rfl) rfl rfl (Rd.move rfl) ?_
  refine SWl.efg (S := []) rfl rfl (by rfl) rfl (Ef.callN [0, 1, 2] (con_encode e3 hf (by omega)) rfl ⟨(sees_box 0 rfl (by decide) ⟨(sees_vec 1 rfl (by decide)), (sees_map 2 rfl (by decide)), trivial⟩), trivial⟩ rfl) ?_
  rintro _ rfl
  refine SWl.rdg rfl rfl (by rfl) rfl rfl (Rd.str (e := 5) rfl (by kernel_rfl) (by kernel_rfl) (by kernel_rfl) (by simp)) ?_
  refine SWl.rdg rfl rfl (by rfl) rfl rfl (Rd.eqs (p := encAll e3) (q := [1, 0, 0, 0, 1, 97, 2, 0, 0, 0, 1, 98, 3, 0, 0, 0, 0]) rfl rfl) ?_
  refine SWl.rd rfl (Rd.pickY rfl (by rfl) rfl) ?_
  refine SWl.rd rfl (Rd.assign rfl) ?_
  refine SWl.nil ?_
  refine SN.then ?_
  refine SW.ret (fn := Tryd.f11) (fun _ _ h => h) (Rs.le (Rs.one rfl (ResV.tmp rfl)) ?_)
  exact le_bool_n (by rw [henc]; rfl)
theorem con_known43 : ConN Tryd.prog 11 [] (boolD true) :=
  con_known43_e [⟨1, [97]⟩] [⟨1, [97]⟩, ⟨2, [98]⟩] kE ⟨2, [98]⟩ rfl rfl rfl rfl rfl rfl rfl rfl rfl kE_fit enc_kE ⟨rfl, rfl⟩ ⟨rfl, rfl⟩ ⟨rfl, rfl⟩
end Sx
end Go.Proofs.YtonjpfpdpfonnaaDoor
