/-
  LEDGERS: LedgerProves.
-/
import Derived.Test.YtonjpfpdpfonnaaDoorGZ
namespace Go.Proofs.YtonjpfpdpfonnaaDoor
open Go.RowKit
namespace Sx
theorem rootB_no {es : List Led.Ent} {n : Int} (h : ¬ (0 ≤ n ∧ n ≤ es.length)) : Led.rootB es n = [] ∧ Led.rootC es n = 3 := ⟨if_neg h, if_neg h⟩
theorem rootB_yes {es : List Led.Ent} {n : Nat} (h : n ≤ es.length) : Led.rootB es n = Led.root HH (es.take n) ∧ Led.rootC es n = 0 := by
  have h1 : 0 ≤ (n : Int) ∧ (n : Int) ≤ es.length := by omega
  exact ⟨by rw [Led.rootB, if_pos h1]; simp, if_pos h1⟩
theorem inclB_no {es : List Led.Ent} {i n : Int} (h : ¬ (0 ≤ n ∧ n ≤ es.length ∧ 0 ≤ i ∧ i < n)) : Led.inclB es i n = [] ∧ Led.inclC es i n = 3 := ⟨if_neg h, if_neg h⟩
theorem inclB_yes {es : List Led.Ent} {i n : Nat} (h : n ≤ es.length) (hi : i < n) : Led.inclB es i n = Led.incl HH (es.take n) i ∧ Led.inclC es i n = 0 := by
  have h1 : 0 ≤ (n : Int) ∧ (n : Int) ≤ es.length ∧ 0 ≤ (i : Int) ∧ (i : Int) < n := by omega
  exact ⟨by rw [Led.inclB, if_pos h1]; simp, if_pos h1⟩
theorem consB_no {es : List Led.Ent} {m n : Int} (h : ¬ (0 ≤ n ∧ n ≤ es.length ∧ 0 ≤ m ∧ m ≤ n)) : Led.consB es m n = [] ∧ Led.consC es m n = 3 := ⟨if_neg (by omega), if_neg h⟩
theorem consB_0 {es : List Led.Ent} {m n : Nat} (h : n ≤ es.length) (h0 : m = 0) : Led.consB es m n = [] ∧ Led.consC es m n = 0 := ⟨if_neg (by omega), if_pos (by omega)⟩
theorem consB_yes {es : List Led.Ent} {m n : Nat} (h : n ≤ es.length) (h0 : 0 < m) (hm : m ≤ n) : Led.consB es m n = Led.cons HH (es.take n) m true ∧ Led.consC es m n = 0 := by
  have h1 : 0 ≤ (n : Int) ∧ (n : Int) ≤ es.length ∧ 0 < (m : Int) ∧ (m : Int) ≤ n := by omega
  exact ⟨by rw [Led.consB, if_pos h1]; simp, if_pos (by omega)⟩
theorem inclB_len (es : List Led.Ent) (i n : Int) : (Led.inclB es i n).length ≤ es.length := by
  unfold Led.inclB
  split
  · exact Nat.le_trans (incl_le _ _ _ (Nat.le_refl _)) (by simp; omega)
  · simp
theorem consB_len (es : List Led.Ent) (m n : Int) : (Led.consB es m n).length ≤ es.length := by
  unfold Led.consB
  split
  · rename_i h
    exact Nat.le_trans (cons_le _ _ _ (by omega) (by simp; omega)) (by simp; omega)
  · simp
set_option maxHeartbeats 4000000 in
set_option maxRecDepth 100000 in
theorem ledgerProves_con (l : List Led.Ent) (i m n : Int) (hl : l.length ≤ 9223372036854775807) : ConN Tryd.prog 3 [lsD encE l, iD i, iD m, iD n] (boolD true) := by
  refine con_ofN Tryd.func3 (by kernel_rfl) rfl (by kernel_rfl) fun base w0 => ?_
  refine SW.seq ?_
  refine SW.region ?_
  refine SWl.rd rfl (Rd.assign rfl) ?_
  refine SWl.nil ?_
  refine SN.then ?_
  refine SW.seq ?_
  refine SW.seq ?_
  refine SW.region ?_
  refine SWl.rd rfl (Rd.move rfl) ?_
  refine SWl.ef (S := []) (Ef.callN [] (con_few l 30 hl) rfl ⟨(sees_le (Le.refl _)), (sees_le (Le.refl _)), trivial⟩ rfl) ?_
  rintro _ rfl
  refine SWl.rd rfl (Rd.not rfl) ?_
  refine SWl.nil ?_
  refine SN.then ?_
  refine SW.cond rfl (fun hb20 => ?_) (fun hb20 => ?_)
  · skip
    refine SW.seq ?_
    refine SW.region ?_
    refine SWl.ef (S := []) (Ef.callN [] (con_known43) rfl trivial rfl) ?_
    rintro _ rfl
    refine SWl.rd rfl (Rd.assign rfl) ?_
    refine SWl.nil ?_
    refine SN.then ?_
    refine SW.ret (fn := Tryd.f3) (fun _ _ h => h) (Rs.le (Rs.one rfl (ResV.tmp rfl)) ?_)
    exact le_bool_n (by rfl)
  · have hq := of_decide_eq_true (show _ = true from by simpa using hb20)
    refine SW.skip ?_
    refine SN.then ?_
    refine SW.seq ?_
    refine SW.region ?_
    refine SWl.rd rfl (Rd.move rfl) ?_
    have hfl := fits_len l
    refine SWl.ef (S := []) (Ef.callR [] (con_made l (by omega) (fun e he => by have := hq.1 e he; omega)) rfl ⟨Le.refl _, trivial⟩ (by decide) trivial (fun _ h => h) rfl) ?_
    rintro _ ⟨⟨gx, sx⟩, rfl⟩
    refine SWl.rd rfl (Rd.move rfl) ?_
    refine SWl.rd rfl (Rd.extract rfl rfl) ?_
    refine SWl.rd rfl (Rd.extract rfl rfl) ?_
    refine SWl.rd rfl (Rd.extract rfl rfl) ?_
    refine SWl.rd rfl (Rd.assign rfl) ?_
    refine SWl.rd rfl (Rd.assign rfl) ?_
    refine SWl.rd rfl (Rd.assign rfl) ?_
    refine SWl.nil ?_
    refine SN.then ?_
    refine SW.seq ?_
    refine SW.seq ?_
    refine SW.region ?_
    refine SWl.rd rfl (Rd.move rfl) ?_
    refine SWl.rd rfl (Rd.not rfl) ?_
    refine SWl.nil ?_
    refine SN.then ?_
    refine SW.condF rfl (rfl) ?_
    refine SW.skip ?_
    refine SN.then ?_
    refine SW.seq ?_
    refine SW.sub (σ' := St.ob [(1, iD i), (2, iD m), (3, iD n), (9, isD (.pointer (some ⟨gx, 0, none⟩))), (10, lsD encE (Led.fits l))] [.c gx [isD (.slice sx.A ((Led.fits l)).length sx.c), isD (.map sx.M)], ledE sx ((Led.fits l)), ledM sx ((Led.fits l))]) (⟨⟨_, rfl, ⟨⟨_, rfl, Le.refl _⟩, ⟨⟨_, rfl, Le.refl _⟩, ⟨⟨_, rfl, Le.refl _⟩, ⟨⟨_, rfl, Le.refl _⟩, ⟨⟨_, rfl, Le.refl _⟩, trivial⟩⟩⟩⟩⟩⟩, [0, 1, 2], by decide, ⟨⟨_, rfl, LeAll.refl _⟩, ⟨⟨_, rfl, LeR.refl _⟩, ⟨⟨_, rfl, LeR.refl _⟩, trivial⟩⟩⟩⟩) ?_
    refine SW.region ?_
    refine SWl.rd rfl (Rd.move rfl) ?_
    refine SWl.rd rfl (Rd.move rfl) ?_
    refine SWl.ef (S := []) (Ef.callN [0, 1, 2] (con_root_any (Led.fits l) (by omega) n) rfl ⟨(sees_box 0 rfl (by decide) ⟨(sees_vec 1 rfl (by decide)), (sees_map 2 rfl (by decide)), trivial⟩), (sees_le (Le.refl _)), trivial⟩ rfl) ?_
    rintro _ rfl
    refine SWl.rd rfl (Rd.move rfl) ?_
    refine SWl.rd rfl (Rd.extract rfl rfl) ?_
    refine SWl.rd rfl (Rd.extract rfl rfl) ?_
    refine SWl.rd rfl (Rd.assign rfl) ?_
    refine SWl.rd rfl (Rd.assign rfl) ?_
    refine SWl.nil ?_
    refine SN.then ?_
    refine SW.seq ?_
    refine SW.sub (σ' := St.ob [(1, iD i), (2, iD m), (3, iD n), (9, isD (.pointer (some ⟨gx, 0, none⟩))), (10, lsD encE (Led.fits l)), (12, bD (Led.rootB (Led.fits l) n)), (13, iD (Led.rootC (Led.fits l) n))] [.c gx [isD (.slice sx.A ((Led.fits l)).length sx.c), isD (.map sx.M)], ledE sx ((Led.fits l)), ledM sx ((Led.fits l))]) (⟨⟨_, rfl, ⟨⟨_, rfl, Le.refl _⟩, ⟨⟨_, rfl, Le.refl _⟩, ⟨⟨_, rfl, Le.refl _⟩, ⟨⟨_, rfl, Le.refl _⟩, ⟨⟨_, rfl, Le.refl _⟩, ⟨⟨_, rfl, Le.refl _⟩, ⟨⟨_, rfl, Le.refl _⟩, trivial⟩⟩⟩⟩⟩⟩⟩⟩, [0, 1, 2], by decide, ⟨⟨_, rfl, LeAll.refl _⟩, ⟨⟨_, rfl, LeR.refl _⟩, ⟨⟨_, rfl, LeR.refl _⟩, trivial⟩⟩⟩⟩) ?_
    refine SW.region ?_
    refine SWl.rd rfl (Rd.move rfl) ?_
    refine SWl.rd rfl (Rd.move rfl) ?_
    refine SWl.rd rfl (Rd.move rfl) ?_
    refine SWl.ef (S := []) (Ef.callN [0, 1, 2] (con_incl_any (Led.fits l) (by omega) i n) rfl ⟨(sees_box 0 rfl (by decide) ⟨(sees_vec 1 rfl (by decide)), (sees_map 2 rfl (by decide)), trivial⟩), (sees_le (Le.refl _)), (sees_le (Le.refl _)), trivial⟩ rfl) ?_
    rintro _ rfl
    refine SWl.rd rfl (Rd.move rfl) ?_
    refine SWl.rd rfl (Rd.extract rfl rfl) ?_
    refine SWl.rd rfl (Rd.extract rfl rfl) ?_
    refine SWl.ef (S := []) (Ef.alloc (zs := [.slice none 0 0]) (by kernel_rfl) rfl) ?_
    rintro _ ⟨g14, rfl⟩
    refine SWl.ef (S := [_]) (Ef.storeA 3 rfl rfl rfl (by kernel_rfl) rfl (List.mem_singleton.2 rfl)) ?_
    rintro _ rfl
    refine SWl.rd rfl (Rd.assign rfl) ?_
    refine SWl.nil ?_
    refine SN.then ?_
    refine SW.seq ?_
    refine SW.sub (σ' := St.ob [(1, iD i), (2, iD m), (3, iD n), (9, isD (.pointer (some ⟨gx, 0, none⟩))), (10, lsD encE (Led.fits l)), (12, bD (Led.rootB (Led.fits l) n)), (13, iD (Led.rootC (Led.fits l) n)), (14, isD (.pointer (some ⟨g14, 0, none⟩))), (15, iD (Led.inclC (Led.fits l) i n))] [.c gx [isD (.slice sx.A ((Led.fits l)).length sx.c), isD (.map sx.M)], ledE sx ((Led.fits l)), ledM sx ((Led.fits l)), .c g14 [lsD encL (Led.inclB (Led.fits l) i n)]]) (⟨⟨_, rfl, ⟨⟨_, rfl, Le.refl _⟩, ⟨⟨_, rfl, Le.refl _⟩, ⟨⟨_, rfl, Le.refl _⟩, ⟨⟨_, rfl, Le.refl _⟩, ⟨⟨_, rfl, Le.refl _⟩, ⟨⟨_, rfl, Le.refl _⟩, ⟨⟨_, rfl, Le.refl _⟩, ⟨⟨_, rfl, Le.refl _⟩, ⟨⟨_, rfl, Le.refl _⟩, trivial⟩⟩⟩⟩⟩⟩⟩⟩⟩⟩, [0, 1, 2, 3], by decide, ⟨⟨_, rfl, LeAll.refl _⟩, ⟨⟨_, rfl, LeR.refl _⟩, ⟨⟨_, rfl, LeR.refl _⟩, ⟨⟨_, rfl, LeAll.refl _⟩, trivial⟩⟩⟩⟩⟩) ?_
    refine SW.region ?_
    refine SWl.rd rfl (Rd.move rfl) ?_
    refine SWl.rd rfl (Rd.move rfl) ?_
    refine SWl.rd rfl (Rd.move rfl) ?_
    refine SWl.ef (S := []) (Ef.callN [0, 1, 2] (con_cons_any (Led.fits l) (by omega) m n) rfl ⟨(sees_box 0 rfl (by decide) ⟨(sees_vec 1 rfl (by decide)), (sees_map 2 rfl (by decide)), trivial⟩), (sees_le (Le.refl _)), (sees_le (Le.refl _)), trivial⟩ rfl) ?_
    rintro _ rfl
    refine SWl.rd rfl (Rd.move rfl) ?_
    refine SWl.rd rfl (Rd.extract rfl rfl) ?_
    refine SWl.rd rfl (Rd.extract rfl rfl) ?_
    refine SWl.ef (S := []) (Ef.alloc (zs := [.slice none 0 0]) (by kernel_rfl) rfl) ?_
    rintro _ ⟨g16, rfl⟩
    refine SWl.ef (S := [_]) (Ef.storeA 4 rfl rfl rfl (by kernel_rfl) rfl (List.mem_singleton.2 rfl)) ?_
    rintro _ rfl
    refine SWl.rd rfl (Rd.assign rfl) ?_
    refine SWl.nil ?_
    refine SN.then ?_
    refine SW.seq ?_
    refine SW.seq ?_
    refine SW.sub (σ' := St.ob [(1, iD i), (2, iD m), (3, iD n), (9, isD (.pointer (some ⟨gx, 0, none⟩))), (10, lsD encE (Led.fits l)), (12, bD (Led.rootB (Led.fits l) n)), (13, iD (Led.rootC (Led.fits l) n)), (14, isD (.pointer (some ⟨g14, 0, none⟩))), (15, iD (Led.inclC (Led.fits l) i n)), (16, isD (.pointer (some ⟨g16, 0, none⟩))), (17, iD (Led.consC (Led.fits l) m n))] [.c gx [isD (.slice sx.A ((Led.fits l)).length sx.c), isD (.map sx.M)], ledE sx ((Led.fits l)), ledM sx ((Led.fits l)), .c g14 [lsD encL (Led.inclB (Led.fits l) i n)], .c g16 [lsD encL (Led.consB (Led.fits l) m n)]]) (⟨⟨_, rfl, ⟨⟨_, rfl, Le.refl _⟩, ⟨⟨_, rfl, Le.refl _⟩, ⟨⟨_, rfl, Le.refl _⟩, ⟨⟨_, rfl, Le.refl _⟩, ⟨⟨_, rfl, Le.refl _⟩, ⟨⟨_, rfl, Le.refl _⟩, ⟨⟨_, rfl, Le.refl _⟩, ⟨⟨_, rfl, Le.refl _⟩, ⟨⟨_, rfl, Le.refl _⟩, ⟨⟨_, rfl, Le.refl _⟩, ⟨⟨_, rfl, Le.refl _⟩, trivial⟩⟩⟩⟩⟩⟩⟩⟩⟩⟩⟩⟩, [0, 1, 2, 3, 4], by decide, ⟨⟨_, rfl, LeAll.refl _⟩, ⟨⟨_, rfl, LeR.refl _⟩, ⟨⟨_, rfl, LeR.refl _⟩, ⟨⟨_, rfl, LeAll.refl _⟩, ⟨⟨_, rfl, LeAll.refl _⟩, trivial⟩⟩⟩⟩⟩⟩) ?_
    refine SW.region ?_
    refine SWl.rd rfl (Rd.move rfl) ?_
    refine SWl.rd rfl (Rd.lss rfl rfl) ?_
    refine SWl.rd rfl (Rd.move rfl) ?_
    refine SWl.split 52 rfl (fun hb52 => ?_) (fun hb52 => ?_)
    · have hno : ¬ (0 ≤ n ∧ n ≤ (Led.fits l).length) := by have := of_decide_eq_true hb52; omega
      refine SWl.off rfl rfl (hb52) rfl rfl ?_
      refine SWl.off rfl rfl (hb52) rfl rfl ?_
      refine SWl.off rfl rfl (hb52) rfl rfl ?_
      refine SWl.off rfl rfl (hb52) rfl rfl ?_
      refine SWl.rd rfl (Rd.pickY rfl (hb52) rfl) ?_
      refine SWl.nil ?_
      refine SN.then ?_
      refine SW.condT rfl (rfl) ?_
      refine SW.seq ?_
      refine SW.region ?_
      refine SWl.rd rfl (Rd.move rfl) ?_
      refine SWl.rd rfl (Rd.len (e := 5) rfl (by kernel_rfl)) ?_
      refine SWl.rd rfl (Rd.eqi rfl rfl) ?_
      refine SWl.rd rfl (Rd.move rfl) ?_
      refine SWl.rdg rfl rfl (by rw [(rootB_no hno).1]; rfl) rfl rfl (Rd.fieldAddr (n := 0) rfl (by kernel_rfl)) ?_
      refine SWl.rdg rfl rfl (by rw [(rootB_no hno).1]; rfl) rfl rfl (Rd.loadB 3 rfl rfl rfl (by kernel_rfl) ap_nil) ?_
      refine SWl.rdg rfl rfl (by rw [(rootB_no hno).1]; rfl) rfl rfl (Rd.lenR (e := 28) rfl (by kernel_rfl)) ?_
      refine SWl.rdg rfl rfl (by rw [(rootB_no hno).1]; rfl) rfl rfl (Rd.eqi rfl rfl) ?_
      refine SWl.rd rfl (Rd.pickY rfl (by rw [(rootB_no hno).1]; rfl) rfl) ?_
      refine SWl.rd rfl (Rd.move rfl) ?_
      refine SWl.rdg rfl rfl (by rw [(inclB_no (fun h => hno ⟨h.1, h.2.1⟩)).1]; rfl) rfl rfl (Rd.fieldAddr (n := 0) rfl (by kernel_rfl)) ?_
      refine SWl.rdg rfl rfl (by rw [(inclB_no (fun h => hno ⟨h.1, h.2.1⟩)).1]; rfl) rfl rfl (Rd.loadB 4 rfl rfl rfl (by kernel_rfl) ap_nil) ?_
      refine SWl.rdg rfl rfl (by rw [(inclB_no (fun h => hno ⟨h.1, h.2.1⟩)).1]; rfl) rfl rfl (Rd.lenR (e := 28) rfl (by kernel_rfl)) ?_
      refine SWl.rdg rfl rfl (by rw [(inclB_no (fun h => hno ⟨h.1, h.2.1⟩)).1]; rfl) rfl rfl (Rd.eqi rfl rfl) ?_
      refine SWl.rd rfl (Rd.pickY rfl (by rw [(inclB_no (fun h => hno ⟨h.1, h.2.1⟩)).1]; rfl) rfl) ?_
      refine SWl.rd rfl (Rd.move rfl) ?_
      refine SWl.rdg rfl rfl (by rw [(consB_no (fun h => hno ⟨h.1, h.2.1⟩)).1]; rfl) rfl rfl (Rd.move rfl) ?_
      refine SWl.rdg rfl rfl (by rw [(consB_no (fun h => hno ⟨h.1, h.2.1⟩)).1]; rfl) rfl rfl (Rd.eqi rfl rfl) ?_
      refine SWl.rd rfl (Rd.pickY rfl (by rw [(consB_no (fun h => hno ⟨h.1, h.2.1⟩)).1]; rfl) rfl) ?_
      refine SWl.rd rfl (Rd.move rfl) ?_
      refine SWl.rdg rfl rfl (by rw [(rootB_no hno).2]; rfl) rfl rfl (Rd.move rfl) ?_
      refine SWl.rdg rfl rfl (by rw [(rootB_no hno).2]; rfl) rfl rfl (Rd.eqi rfl rfl) ?_
      refine SWl.rd rfl (Rd.pickY rfl (by rw [(rootB_no hno).2]; rfl) rfl) ?_
      refine SWl.rd rfl (Rd.move rfl) ?_
      refine SWl.rdg rfl rfl (by rw [(inclB_no (fun h => hno ⟨h.1, h.2.1⟩)).2]; rfl) rfl rfl (Rd.move rfl) ?_
      refine SWl.rdg rfl rfl (by rw [(inclB_no (fun h => hno ⟨h.1, h.2.1⟩)).2]; rfl) rfl rfl (Rd.eqi rfl rfl) ?_
      refine SWl.rd rfl (Rd.pickY rfl (by rw [(inclB_no (fun h => hno ⟨h.1, h.2.1⟩)).2]; rfl) rfl) ?_
      refine SWl.rd rfl (Rd.move rfl) ?_
      refine SWl.efg (S := []) rfl rfl (by rw [(consB_no (fun h => hno ⟨h.1, h.2.1⟩)).2]; rfl) rfl (Ef.callN [] (con_known43) rfl trivial rfl) ?_
      rintro _ rfl
      refine SWl.rd rfl (Rd.pickY rfl (by rw [(consB_no (fun h => hno ⟨h.1, h.2.1⟩)).2]; rfl) rfl) ?_
      refine SWl.rd rfl (Rd.assign rfl) ?_
      refine SWl.nil ?_
      refine SN.then ?_
      refine SW.ret (fn := Tryd.f3) (fun _ _ h => h) (Rs.le (Rs.one rfl (ResV.tmp rfl)) ?_)
      exact le_bool_n (by rfl)
    · skip
      refine SWl.rdg rfl rfl (hb52) rfl rfl (Rd.move rfl) ?_
      refine SWl.rdg rfl rfl (hb52) rfl rfl (Rd.move rfl) ?_
      refine SWl.rdg rfl rfl (hb52) rfl rfl (Rd.lenR (e := 44) rfl (by kernel_rfl)) ?_
      refine SWl.rdg rfl rfl (hb52) rfl rfl (Rd.gtr rfl rfl) ?_
      refine SWl.rd rfl (Rd.pickN rfl (hb52) rfl) ?_
      refine SWl.nil ?_
      refine SN.then ?_
      refine SW.cond rfl (fun hb57 => ?_) (fun hb57 => ?_)
      · have hno : ¬ (0 ≤ n ∧ n ≤ (Led.fits l).length) := by have := of_decide_eq_true hb57; omega
        refine SW.seq ?_
        refine SW.region ?_
        refine SWl.rd rfl (Rd.move rfl) ?_
        refine SWl.rd rfl (Rd.len (e := 5) rfl (by kernel_rfl)) ?_
        refine SWl.rd rfl (Rd.eqi rfl rfl) ?_
        refine SWl.rd rfl (Rd.move rfl) ?_
        refine SWl.rdg rfl rfl (by rw [(rootB_no hno).1]; rfl) rfl rfl (Rd.fieldAddr (n := 0) rfl (by kernel_rfl)) ?_
        refine SWl.rdg rfl rfl (by rw [(rootB_no hno).1]; rfl) rfl rfl (Rd.loadB 3 rfl rfl rfl (by kernel_rfl) ap_nil) ?_
        refine SWl.rdg rfl rfl (by rw [(rootB_no hno).1]; rfl) rfl rfl (Rd.lenR (e := 28) rfl (by kernel_rfl)) ?_
        refine SWl.rdg rfl rfl (by rw [(rootB_no hno).1]; rfl) rfl rfl (Rd.eqi rfl rfl) ?_
        refine SWl.rd rfl (Rd.pickY rfl (by rw [(rootB_no hno).1]; rfl) rfl) ?_
        refine SWl.rd rfl (Rd.move rfl) ?_
        refine SWl.rdg rfl rfl (by rw [(inclB_no (fun h => hno ⟨h.1, h.2.1⟩)).1]; rfl) rfl rfl (Rd.fieldAddr (n := 0) rfl (by kernel_rfl)) ?_
        refine SWl.rdg rfl rfl (by rw [(inclB_no (fun h => hno ⟨h.1, h.2.1⟩)).1]; rfl) rfl rfl (Rd.loadB 4 rfl rfl rfl (by kernel_rfl) ap_nil) ?_
        refine SWl.rdg rfl rfl (by rw [(inclB_no (fun h => hno ⟨h.1, h.2.1⟩)).1]; rfl) rfl rfl (Rd.lenR (e := 28) rfl (by kernel_rfl)) ?_
        refine SWl.rdg rfl rfl (by rw [(inclB_no (fun h => hno ⟨h.1, h.2.1⟩)).1]; rfl) rfl rfl (Rd.eqi rfl rfl) ?_
        refine SWl.rd rfl (Rd.pickY rfl (by rw [(inclB_no (fun h => hno ⟨h.1, h.2.1⟩)).1]; rfl) rfl) ?_
        refine SWl.rd rfl (Rd.move rfl) ?_
        refine SWl.rdg rfl rfl (by rw [(consB_no (fun h => hno ⟨h.1, h.2.1⟩)).1]; rfl) rfl rfl (Rd.move rfl) ?_
        refine SWl.rdg rfl rfl (by rw [(consB_no (fun h => hno ⟨h.1, h.2.1⟩)).1]; rfl) rfl rfl (Rd.eqi rfl rfl) ?_
        refine SWl.rd rfl (Rd.pickY rfl (by rw [(consB_no (fun h => hno ⟨h.1, h.2.1⟩)).1]; rfl) rfl) ?_
        refine SWl.rd rfl (Rd.move rfl) ?_
        refine SWl.rdg rfl rfl (by rw [(rootB_no hno).2]; rfl) rfl rfl (Rd.move rfl) ?_
        refine SWl.rdg rfl rfl (by rw [(rootB_no hno).2]; rfl) rfl rfl (Rd.eqi rfl rfl) ?_
        refine SWl.rd rfl (Rd.pickY rfl (by rw [(rootB_no hno).2]; rfl) rfl) ?_
        refine SWl.rd rfl (Rd.move rfl) ?_
        refine SWl.rdg rfl rfl (by rw [(inclB_no (fun h => hno ⟨h.1, h.2.1⟩)).2]; rfl) rfl rfl (Rd.move rfl) ?_
        refine SWl.rdg rfl rfl (by rw [(inclB_no (fun h => hno ⟨h.1, h.2.1⟩)).2]; rfl) rfl rfl (Rd.eqi rfl rfl) ?_
        refine SWl.rd rfl (Rd.pickY rfl (by rw [(inclB_no (fun h => hno ⟨h.1, h.2.1⟩)).2]; rfl) rfl) ?_
        refine SWl.rd rfl (Rd.move rfl) ?_
        refine SWl.efg (S := []) rfl rfl (by rw [(consB_no (fun h => hno ⟨h.1, h.2.1⟩)).2]; rfl) rfl (Ef.callN [] (con_known43) rfl trivial rfl) ?_
        rintro _ rfl
        refine SWl.rd rfl (Rd.pickY rfl (by rw [(consB_no (fun h => hno ⟨h.1, h.2.1⟩)).2]; rfl) rfl) ?_
        refine SWl.rd rfl (Rd.assign rfl) ?_
        refine SWl.nil ?_
        refine SN.then ?_
        refine SW.ret (fn := Tryd.f3) (fun _ _ h => h) (Rs.le (Rs.one rfl (ResV.tmp rfl)) ?_)
        exact le_bool_n (by rfl)
      · have hge := of_decide_eq_false hb52; have hle := of_decide_eq_false hb57; obtain ⟨n, rfl⟩ := Int.eq_ofNat_of_zero_le (show 0 ≤ n by omega); have hn : n ≤ (Led.fits l).length := by omega
        refine SW.skip ?_
        refine SN.then ?_
        refine SW.seq ?_
        refine SW.seq ?_
        refine SW.sub (σ' := St.ob [(1, iD i), (2, iD m), (3, iD (n : Int)), (9, isD (.pointer (some ⟨gx, 0, none⟩))), (10, lsD encE (Led.fits l)), (12, bD (Led.rootB (Led.fits l) (n : Int))), (13, iD (Led.rootC (Led.fits l) (n : Int))), (14, isD (.pointer (some ⟨g14, 0, none⟩))), (15, iD (Led.inclC (Led.fits l) i (n : Int))), (16, isD (.pointer (some ⟨g16, 0, none⟩))), (17, iD (Led.consC (Led.fits l) m (n : Int)))] [.c gx [isD (.slice sx.A ((Led.fits l)).length sx.c), isD (.map sx.M)], ledE sx ((Led.fits l)), ledM sx ((Led.fits l)), .c g14 [lsD encL (Led.inclB (Led.fits l) i (n : Int))], .c g16 [lsD encL (Led.consB (Led.fits l) m (n : Int))]]) (⟨⟨_, rfl, ⟨⟨_, rfl, Le.refl _⟩, ⟨⟨_, rfl, Le.refl _⟩, ⟨⟨_, rfl, Le.refl _⟩, ⟨⟨_, rfl, Le.refl _⟩, ⟨⟨_, rfl, Le.refl _⟩, ⟨⟨_, rfl, Le.refl _⟩, ⟨⟨_, rfl, Le.refl _⟩, ⟨⟨_, rfl, Le.refl _⟩, ⟨⟨_, rfl, Le.refl _⟩, ⟨⟨_, rfl, Le.refl _⟩, ⟨⟨_, rfl, Le.refl _⟩, trivial⟩⟩⟩⟩⟩⟩⟩⟩⟩⟩⟩⟩, [0, 1, 2, 3, 4], by decide, ⟨⟨_, rfl, LeAll.refl _⟩, ⟨⟨_, rfl, LeR.refl _⟩, ⟨⟨_, rfl, LeR.refl _⟩, ⟨⟨_, rfl, LeAll.refl _⟩, ⟨⟨_, rfl, LeAll.refl _⟩, trivial⟩⟩⟩⟩⟩⟩) ?_
        refine SW.draw [] (.r 0 (.r 1 (.r 2 (.r 3 (.r 4 (.r 5 (.r 6 (.r 7 (.n 8 (.r 9 (.r 10 .fin)) .no))))))))) (by kernel_rfl) (by kernel_rfl) (fun d _ _ _ _ h => by cases d <;> exact h) ?_
        refine SWz.rd (i := 0) rfl rfl (Rd.move rfl) ?_
        refine SWz.rd (i := 1) rfl rfl (Rd.nei rfl rfl) ?_
        refine SWz.rd (i := 2) rfl rfl (Rd.move rfl) ?_
        refine SWz.rdg (i := 3) rfl rfl rfl (by rw [(rootB_yes hn).2]; rfl) rfl rfl (Rd.move rfl) ?_
        refine SWz.rdg (i := 4) rfl rfl rfl (by rw [(rootB_yes hn).2]; rfl) rfl rfl (Rd.str (e := 5) rfl (by kernel_rfl) (by kernel_rfl) (by kernel_rfl) (by simp)) ?_
        refine SWz.rdg (i := 5) rfl rfl rfl (by rw [(rootB_yes hn).2]; rfl) rfl rfl (Rd.move rfl) ?_
        refine SWz.rdg (i := 6) rfl rfl rfl (by rw [(rootB_yes hn).2]; rfl) rfl rfl (Rd.move rfl) ?_
        refine SWz.rdg (i := 7) rfl rfl rfl (by rw [(rootB_yes hn).2]; rfl) rfl rfl (Rd.shL (e := 44) 2 rfl rfl (by kernel_rfl) (by kernel_rfl) (by omega)) ?_
        refine SWz.efng (i := 8) rfl rfl rfl (by rw [(rootB_yes hn).2]; rfl) rfl (Ef.callN [] (con_rootR _ ((Led.fits l).take n) rfl (fun e he => fits_fit e (List.mem_of_mem_take he)) (by simp; omega)) rfl ⟨(sees_le (Le.refl _)), trivial⟩ rfl) ?_ SWz.no
        rintro _ rfl
        refine SWz.rdg (i := 9) rfl rfl rfl (by rw [(rootB_yes hn).2]; rfl) rfl rfl (Rd.nes  rfl rfl) ?_
        refine SWz.rd (i := 10) rfl rfl (Rd.pickN rfl (by rw [(rootB_yes hn).2]; rfl) rfl) ?_
        refine SWz.nil ?_
        refine SN.then ?_
        refine SW.condF rfl (by rw [(rootB_yes hn).1]; simp) ?_
        refine SW.skip ?_
        refine SN.then ?_
        refine SW.seq ?_
        refine SW.seq ?_
        refine SW.region ?_
        refine SWl.rd rfl (Rd.move rfl) ?_
        refine SWl.rd rfl (Rd.lss rfl rfl) ?_
        refine SWl.rd rfl (Rd.move rfl) ?_
        refine SWl.split 101 rfl (fun hb101 => ?_) (fun hb101 => ?_)
        · have hi' : ¬ (0 ≤ (n : Int) ∧ (n : Int) ≤ (Led.fits l).length ∧ 0 ≤ i ∧ i < (n : Int)) := by have := of_decide_eq_true hb101; omega
          refine SWl.off rfl rfl (hb101) rfl rfl ?_
          refine SWl.off rfl rfl (hb101) rfl rfl ?_
          refine SWl.off rfl rfl (hb101) rfl rfl ?_
          refine SWl.rd rfl (Rd.pickY rfl (hb101) rfl) ?_
          refine SWl.nil ?_
          refine SN.then ?_
          refine SW.condT rfl (rfl) ?_
          refine SW.seq ?_
          refine SW.region ?_
          refine SWl.rd rfl (Rd.move rfl) ?_
          refine SWl.rd rfl (Rd.nei rfl rfl) ?_
          refine SWl.rd rfl (Rd.move rfl) ?_
          refine SWl.rdg rfl rfl (by rw [(inclB_no hi').2]; rfl) rfl rfl (Rd.fieldAddr (n := 0) rfl (by kernel_rfl)) ?_
          refine SWl.rdg rfl rfl (by rw [(inclB_no hi').2]; rfl) rfl rfl (Rd.loadB 3 rfl rfl rfl (by kernel_rfl) ap_nil) ?_
          refine SWl.rdg rfl rfl (by rw [(inclB_no hi').2]; rfl) rfl rfl (Rd.lenR (e := 28) rfl (by kernel_rfl)) ?_
          refine SWl.rdg rfl rfl (by rw [(inclB_no hi').2]; rfl) rfl rfl (Rd.nei rfl rfl) ?_
          refine SWl.rd rfl (Rd.pickN rfl (by rw [(inclB_no hi').2]; rfl) rfl) ?_
          refine SWl.nil ?_
          refine SN.then ?_
          refine SW.condF rfl (by rw [(inclB_no hi').1]; rfl) ?_
          refine SW.skip ?_
          refine SN.then ?_
          refine SW.seq ?_
          refine SW.seq ?_
          refine SW.region ?_
          refine SWl.rd rfl (Rd.move rfl) ?_
          refine SWl.rd rfl (Rd.lss rfl rfl) ?_
          refine SWl.rd rfl (Rd.move rfl) ?_
          refine SWl.split 129 rfl (fun hb129 => ?_) (fun hb129 => ?_)
          · have hm' : ¬ (0 ≤ (n : Int) ∧ (n : Int) ≤ (Led.fits l).length ∧ 0 ≤ m ∧ m ≤ (n : Int)) := by have := of_decide_eq_true hb129; omega
            refine SWl.off rfl rfl (hb129) rfl rfl ?_
            refine SWl.off rfl rfl (hb129) rfl rfl ?_
            refine SWl.off rfl rfl (hb129) rfl rfl ?_
            refine SWl.rd rfl (Rd.pickY rfl (hb129) rfl) ?_
            refine SWl.nil ?_
            refine SN.then ?_
            refine SW.condT rfl (rfl) ?_
            refine SW.seq ?_
            refine SW.region ?_
            refine SWl.rd rfl (Rd.move rfl) ?_
            refine SWl.rd rfl (Rd.eqi rfl rfl) ?_
            refine SWl.rd rfl (Rd.move rfl) ?_
            refine SWl.rdg rfl rfl (by rw [(consB_no hm').2]; rfl) rfl rfl (Rd.fieldAddr (n := 0) rfl (by kernel_rfl)) ?_
            refine SWl.rdg rfl rfl (by rw [(consB_no hm').2]; rfl) rfl rfl (Rd.loadB 4 rfl rfl rfl (by kernel_rfl) ap_nil) ?_
            refine SWl.rdg rfl rfl (by rw [(consB_no hm').2]; rfl) rfl rfl (Rd.lenR (e := 28) rfl (by kernel_rfl)) ?_
            refine SWl.rdg rfl rfl (by rw [(consB_no hm').2]; rfl) rfl rfl (Rd.eqi rfl rfl) ?_
            refine SWl.rd rfl (Rd.pickY rfl (by rw [(consB_no hm').2]; rfl) rfl) ?_
            refine SWl.rd rfl (Rd.move rfl) ?_
            refine SWl.efg (S := []) rfl rfl (by rw [(consB_no hm').1]; rfl) rfl (Ef.callN [] (con_known43) rfl trivial rfl) ?_
            rintro _ rfl
            refine SWl.rd rfl (Rd.pickY rfl (by rw [(consB_no hm').1]; rfl) rfl) ?_
            refine SWl.rd rfl (Rd.assign rfl) ?_
            refine SWl.nil ?_
            refine SN.then ?_
            refine SW.ret (fn := Tryd.f3) (fun _ _ h => h) (Rs.le (Rs.one rfl (ResV.tmp rfl)) ?_)
            exact le_bool_n (by rfl)
          · skip
            refine SWl.rdg rfl rfl (hb129) rfl rfl (Rd.move rfl) ?_
            refine SWl.rdg rfl rfl (hb129) rfl rfl (Rd.move rfl) ?_
            refine SWl.rdg rfl rfl (hb129) rfl rfl (Rd.gtr rfl rfl) ?_
            refine SWl.rd rfl (Rd.pickN rfl (hb129) rfl) ?_
            refine SWl.nil ?_
            refine SN.then ?_
            refine SW.cond rfl (fun hb133 => ?_) (fun hb133 => ?_)
            · have hm' : ¬ (0 ≤ (n : Int) ∧ (n : Int) ≤ (Led.fits l).length ∧ 0 ≤ m ∧ m ≤ (n : Int)) := by have := of_decide_eq_true hb133; omega
              refine SW.seq ?_
              refine SW.region ?_
              refine SWl.rd rfl (Rd.move rfl) ?_
              refine SWl.rd rfl (Rd.eqi rfl rfl) ?_
              refine SWl.rd rfl (Rd.move rfl) ?_
              refine SWl.rdg rfl rfl (by rw [(consB_no hm').2]; rfl) rfl rfl (Rd.fieldAddr (n := 0) rfl (by kernel_rfl)) ?_
              refine SWl.rdg rfl rfl (by rw [(consB_no hm').2]; rfl) rfl rfl (Rd.loadB 4 rfl rfl rfl (by kernel_rfl) ap_nil) ?_
              refine SWl.rdg rfl rfl (by rw [(consB_no hm').2]; rfl) rfl rfl (Rd.lenR (e := 28) rfl (by kernel_rfl)) ?_
              refine SWl.rdg rfl rfl (by rw [(consB_no hm').2]; rfl) rfl rfl (Rd.eqi rfl rfl) ?_
              refine SWl.rd rfl (Rd.pickY rfl (by rw [(consB_no hm').2]; rfl) rfl) ?_
              refine SWl.rd rfl (Rd.move rfl) ?_
              refine SWl.efg (S := []) rfl rfl (by rw [(consB_no hm').1]; rfl) rfl (Ef.callN [] (con_known43) rfl trivial rfl) ?_
              rintro _ rfl
              refine SWl.rd rfl (Rd.pickY rfl (by rw [(consB_no hm').1]; rfl) rfl) ?_
              refine SWl.rd rfl (Rd.assign rfl) ?_
              refine SWl.nil ?_
              refine SN.then ?_
              refine SW.ret (fn := Tryd.f3) (fun _ _ h => h) (Rs.le (Rs.one rfl (ResV.tmp rfl)) ?_)
              exact le_bool_n (by rfl)
            · have hge3 := of_decide_eq_false hb129; have hle3 := of_decide_eq_false hb133; obtain ⟨m, rfl⟩ := Int.eq_ofNat_of_zero_le (show 0 ≤ m by omega); have hm : m ≤ n := by omega
              refine SW.skip ?_
              refine SN.then ?_
              refine SW.seq ?_
              refine SW.seq ?_
              refine SW.region ?_
              refine SWl.rd rfl (Rd.move rfl) ?_
              refine SWl.rd rfl (Rd.eqi rfl rfl) ?_
              refine SWl.nil ?_
              refine SN.then ?_
              refine SW.cond rfl (fun hb146 => ?_) (fun hb146 => ?_)
              · have h0 : m = 0 := by have := of_decide_eq_true hb146; omega
                refine SW.seq ?_
                refine SW.region ?_
                refine SWl.rd rfl (Rd.move rfl) ?_
                refine SWl.rd rfl (Rd.eqi rfl rfl) ?_
                refine SWl.rd rfl (Rd.move rfl) ?_
                refine SWl.rdg rfl rfl (by rw [(consB_0 hn h0).2]; rfl) rfl rfl (Rd.fieldAddr (n := 0) rfl (by kernel_rfl)) ?_
                refine SWl.rdg rfl rfl (by rw [(consB_0 hn h0).2]; rfl) rfl rfl (Rd.loadB 4 rfl rfl rfl (by kernel_rfl) ap_nil) ?_
                refine SWl.rdg rfl rfl (by rw [(consB_0 hn h0).2]; rfl) rfl rfl (Rd.lenR (e := 28) rfl (by kernel_rfl)) ?_
                refine SWl.rdg rfl rfl (by rw [(consB_0 hn h0).2]; rfl) rfl rfl (Rd.eqi rfl rfl) ?_
                refine SWl.rd rfl (Rd.pickY rfl (by rw [(consB_0 hn h0).2]; rfl) rfl) ?_
                refine SWl.rd rfl (Rd.move rfl) ?_
                refine SWl.efg (S := []) rfl rfl (by rw [(consB_0 hn h0).1]; rfl) rfl (Ef.callN [] (con_known43) rfl trivial rfl) ?_
                rintro _ rfl
                refine SWl.rd rfl (Rd.pickY rfl (by rw [(consB_0 hn h0).1]; rfl) rfl) ?_
                refine SWl.rd rfl (Rd.assign rfl) ?_
                refine SWl.nil ?_
                refine SN.then ?_
                refine SW.ret (fn := Tryd.f3) (fun _ _ h => h) (Rs.le (Rs.one rfl (ResV.tmp rfl)) ?_)
                exact le_bool_n (by rfl)
              · have h0 : 0 < m := by have := of_decide_eq_false hb146; omega
                refine SW.skip ?_
                refine SN.then ?_
                refine SW.seq ?_
                refine SW.draw [] (.r 0 (.r 1 (.r 2 (.r 3 (.r 4 (.r 5 (.r 6 (.r 7 (.r 8 (.n 9 (.n 10 (.r 11 (.r 12 (.n 13 (.r 14 (.r 15 .fin)) .no))) .no) .no)))))))))) (by kernel_rfl) (by kernel_rfl) (fun d _ _ _ _ h => by cases d <;> exact h) ?_
                refine SWz.rd (i := 0) rfl rfl (Rd.move rfl) ?_
                refine SWz.rd (i := 1) rfl rfl (Rd.eqi rfl rfl) ?_
                refine SWz.rd (i := 2) rfl rfl (Rd.move rfl) ?_
                refine SWz.rdg (i := 3) rfl rfl rfl (by rw [(consB_yes hn h0 hm).2]; rfl) rfl rfl (Rd.fieldAddr (n := 0) rfl (by kernel_rfl)) ?_
                refine SWz.rdg (i := 4) rfl rfl rfl (by rw [(consB_yes hn h0 hm).2]; rfl) rfl rfl (Rd.loadB 4 rfl rfl rfl (by kernel_rfl) ap_nil) ?_
                refine SWz.rdg (i := 5) rfl rfl rfl (by rw [(consB_yes hn h0 hm).2]; rfl) rfl rfl (Rd.move rfl) ?_
                refine SWz.rdg (i := 6) rfl rfl rfl (by rw [(consB_yes hn h0 hm).2]; rfl) rfl rfl (Rd.move rfl) ?_
                refine SWz.rdg (i := 7) rfl rfl rfl (by rw [(consB_yes hn h0 hm).2]; rfl) rfl rfl (Rd.shL (e := 44) 2 rfl rfl (by kernel_rfl) (by kernel_rfl) (by omega)) ?_
                refine SWz.rdg (i := 8) rfl rfl rfl (by rw [(consB_yes hn h0 hm).2]; rfl) rfl rfl (Rd.move rfl) ?_
                refine SWz.eflg (i := 9) rfl rfl rfl (by rw [(consB_yes hn h0 hm).2]; rfl) rfl (EfL.callR (con_consR _ ((Led.fits l).take n) m true _ rfl (fun e he => fits_fit e (List.mem_of_mem_take he)) (by simp; omega) (by omega) (by simp; omega) rfl) rfl ⟨Le.refl _, Le.refl _, Le.refl _, trivial⟩ rfl) ?_ SWz.no
                rintro _ _ ⟨s167, rfl, rfl⟩
                refine SWz.efng (i := 10) rfl rfl rfl (by rw [(consB_yes hn h0 hm).2]; rfl) rfl (Ef.callN [5] (con_sameR _ _ (by have := consB_len (Led.fits l) m n; omega)) rfl ⟨(sees_le (Le.refl _)), (sees_vec 5 rfl (by decide)), trivial⟩ rfl) ?_ SWz.no
                rintro _ rfl
                refine SWz.rd (i := 11) rfl rfl (Rd.pickY rfl (by rw [(consB_yes hn h0 hm).2]; rfl) rfl) ?_
                refine SWz.rd (i := 12) rfl rfl (Rd.move rfl) ?_
                refine SWz.efng (i := 13) rfl rfl rfl (by rw [(consB_yes hn h0 hm).1]; simp) rfl (Ef.callN [] (con_known43) rfl trivial rfl) ?_ SWz.no
                rintro _ rfl
                refine SWz.rd (i := 14) rfl rfl (Rd.pickY rfl (by rw [(consB_yes hn h0 hm).1]; simp) rfl) ?_
                refine SWz.rd (i := 15) rfl rfl (Rd.assign rfl) ?_
                refine SWz.nil ?_
                refine SN.then ?_
                refine SW.ret (fn := Tryd.f3) (fun _ _ h => h) (Rs.le (Rs.one rfl (ResV.tmp rfl)) ?_)
                exact le_bool_n (by rfl)
        · skip
          refine SWl.rdg rfl rfl (hb101) rfl rfl (Rd.move rfl) ?_
          refine SWl.rdg rfl rfl (hb101) rfl rfl (Rd.move rfl) ?_
          refine SWl.rdg rfl rfl (hb101) rfl rfl (Rd.geq rfl rfl) ?_
          refine SWl.rd rfl (Rd.pickN rfl (hb101) rfl) ?_
          refine SWl.nil ?_
          refine SN.then ?_
          refine SW.cond rfl (fun hb105 => ?_) (fun hb105 => ?_)
          · have hi' : ¬ (0 ≤ (n : Int) ∧ (n : Int) ≤ (Led.fits l).length ∧ 0 ≤ i ∧ i < (n : Int)) := by have := of_decide_eq_true hb105; omega
            refine SW.seq ?_
            refine SW.region ?_
            refine SWl.rd rfl (Rd.move rfl) ?_
            refine SWl.rd rfl (Rd.nei rfl rfl) ?_
            refine SWl.rd rfl (Rd.move rfl) ?_
            refine SWl.rdg rfl rfl (by rw [(inclB_no hi').2]; rfl) rfl rfl (Rd.fieldAddr (n := 0) rfl (by kernel_rfl)) ?_
            refine SWl.rdg rfl rfl (by rw [(inclB_no hi').2]; rfl) rfl rfl (Rd.loadB 3 rfl rfl rfl (by kernel_rfl) ap_nil) ?_
            refine SWl.rdg rfl rfl (by rw [(inclB_no hi').2]; rfl) rfl rfl (Rd.lenR (e := 28) rfl (by kernel_rfl)) ?_
            refine SWl.rdg rfl rfl (by rw [(inclB_no hi').2]; rfl) rfl rfl (Rd.nei rfl rfl) ?_
            refine SWl.rd rfl (Rd.pickN rfl (by rw [(inclB_no hi').2]; rfl) rfl) ?_
            refine SWl.nil ?_
            refine SN.then ?_
            refine SW.condF rfl (by rw [(inclB_no hi').1]; rfl) ?_
            refine SW.skip ?_
            refine SN.then ?_
            refine SW.seq ?_
            refine SW.seq ?_
            refine SW.region ?_
            refine SWl.rd rfl (Rd.move rfl) ?_
            refine SWl.rd rfl (Rd.lss rfl rfl) ?_
            refine SWl.rd rfl (Rd.move rfl) ?_
            refine SWl.split 129 rfl (fun hb129 => ?_) (fun hb129 => ?_)
            · have hm' : ¬ (0 ≤ (n : Int) ∧ (n : Int) ≤ (Led.fits l).length ∧ 0 ≤ m ∧ m ≤ (n : Int)) := by have := of_decide_eq_true hb129; omega
              refine SWl.off rfl rfl (hb129) rfl rfl ?_
              refine SWl.off rfl rfl (hb129) rfl rfl ?_
              refine SWl.off rfl rfl (hb129) rfl rfl ?_
              refine SWl.rd rfl (Rd.pickY rfl (hb129) rfl) ?_
              refine SWl.nil ?_
              refine SN.then ?_
              refine SW.condT rfl (rfl) ?_
              refine SW.seq ?_
              refine SW.region ?_
              refine SWl.rd rfl (Rd.move rfl) ?_
              refine SWl.rd rfl (Rd.eqi rfl rfl) ?_
              refine SWl.rd rfl (Rd.move rfl) ?_
              refine SWl.rdg rfl rfl (by rw [(consB_no hm').2]; rfl) rfl rfl (Rd.fieldAddr (n := 0) rfl (by kernel_rfl)) ?_
              refine SWl.rdg rfl rfl (by rw [(consB_no hm').2]; rfl) rfl rfl (Rd.loadB 4 rfl rfl rfl (by kernel_rfl) ap_nil) ?_
              refine SWl.rdg rfl rfl (by rw [(consB_no hm').2]; rfl) rfl rfl (Rd.lenR (e := 28) rfl (by kernel_rfl)) ?_
              refine SWl.rdg rfl rfl (by rw [(consB_no hm').2]; rfl) rfl rfl (Rd.eqi rfl rfl) ?_
              refine SWl.rd rfl (Rd.pickY rfl (by rw [(consB_no hm').2]; rfl) rfl) ?_
              refine SWl.rd rfl (Rd.move rfl) ?_
              refine SWl.efg (S := []) rfl rfl (by rw [(consB_no hm').1]; rfl) rfl (Ef.callN [] (con_known43) rfl trivial rfl) ?_
              rintro _ rfl
              refine SWl.rd rfl (Rd.pickY rfl (by rw [(consB_no hm').1]; rfl) rfl) ?_
              refine SWl.rd rfl (Rd.assign rfl) ?_
              refine SWl.nil ?_
              refine SN.then ?_
              refine SW.ret (fn := Tryd.f3) (fun _ _ h => h) (Rs.le (Rs.one rfl (ResV.tmp rfl)) ?_)
              exact le_bool_n (by rfl)
            · skip
              refine SWl.rdg rfl rfl (hb129) rfl rfl (Rd.move rfl) ?_
              refine SWl.rdg rfl rfl (hb129) rfl rfl (Rd.move rfl) ?_
              refine SWl.rdg rfl rfl (hb129) rfl rfl (Rd.gtr rfl rfl) ?_
              refine SWl.rd rfl (Rd.pickN rfl (hb129) rfl) ?_
              refine SWl.nil ?_
              refine SN.then ?_
              refine SW.cond rfl (fun hb133 => ?_) (fun hb133 => ?_)
              · have hm' : ¬ (0 ≤ (n : Int) ∧ (n : Int) ≤ (Led.fits l).length ∧ 0 ≤ m ∧ m ≤ (n : Int)) := by have := of_decide_eq_true hb133; omega
                refine SW.seq ?_
                refine SW.region ?_
                refine SWl.rd rfl (Rd.move rfl) ?_
                refine SWl.rd rfl (Rd.eqi rfl rfl) ?_
                refine SWl.rd rfl (Rd.move rfl) ?_
                refine SWl.rdg rfl rfl (by rw [(consB_no hm').2]; rfl) rfl rfl (Rd.fieldAddr (n := 0) rfl (by kernel_rfl)) ?_
                refine SWl.rdg rfl rfl (by rw [(consB_no hm').2]; rfl) rfl rfl (Rd.loadB 4 rfl rfl rfl (by kernel_rfl) ap_nil) ?_
                refine SWl.rdg rfl rfl (by rw [(consB_no hm').2]; rfl) rfl rfl (Rd.lenR (e := 28) rfl (by kernel_rfl)) ?_
                refine SWl.rdg rfl rfl (by rw [(consB_no hm').2]; rfl) rfl rfl (Rd.eqi rfl rfl) ?_
                refine SWl.rd rfl (Rd.pickY rfl (by rw [(consB_no hm').2]; rfl) rfl) ?_
                refine SWl.rd rfl (Rd.move rfl) ?_
                refine SWl.efg (S := []) rfl rfl (by rw [(consB_no hm').1]; rfl) rfl (Ef.callN [] (con_known43) rfl trivial rfl) ?_
                rintro _ rfl
                refine SWl.rd rfl (Rd.pickY rfl (by rw [(consB_no hm').1]; rfl) rfl) ?_
                refine SWl.rd rfl (Rd.assign rfl) ?_
                refine SWl.nil ?_
                refine SN.then ?_
                refine SW.ret (fn := Tryd.f3) (fun _ _ h => h) (Rs.le (Rs.one rfl (ResV.tmp rfl)) ?_)
                exact le_bool_n (by rfl)
              · have hge3 := of_decide_eq_false hb129; have hle3 := of_decide_eq_false hb133; obtain ⟨m, rfl⟩ := Int.eq_ofNat_of_zero_le (show 0 ≤ m by omega); have hm : m ≤ n := by omega
                refine SW.skip ?_
                refine SN.then ?_
                refine SW.seq ?_
                refine SW.seq ?_
                refine SW.region ?_
                refine SWl.rd rfl (Rd.move rfl) ?_
                refine SWl.rd rfl (Rd.eqi rfl rfl) ?_
                refine SWl.nil ?_
                refine SN.then ?_
                refine SW.cond rfl (fun hb146 => ?_) (fun hb146 => ?_)
                · have h0 : m = 0 := by have := of_decide_eq_true hb146; omega
                  refine SW.seq ?_
                  refine SW.region ?_
                  refine SWl.rd rfl (Rd.move rfl) ?_
                  refine SWl.rd rfl (Rd.eqi rfl rfl) ?_
                  refine SWl.rd rfl (Rd.move rfl) ?_
                  refine SWl.rdg rfl rfl (by rw [(consB_0 hn h0).2]; rfl) rfl rfl (Rd.fieldAddr (n := 0) rfl (by kernel_rfl)) ?_
                  refine SWl.rdg rfl rfl (by rw [(consB_0 hn h0).2]; rfl) rfl rfl (Rd.loadB 4 rfl rfl rfl (by kernel_rfl) ap_nil) ?_
                  refine SWl.rdg rfl rfl (by rw [(consB_0 hn h0).2]; rfl) rfl rfl (Rd.lenR (e := 28) rfl (by kernel_rfl)) ?_
                  refine SWl.rdg rfl rfl (by rw [(consB_0 hn h0).2]; rfl) rfl rfl (Rd.eqi rfl rfl) ?_
                  refine SWl.rd rfl (Rd.pickY rfl (by rw [(consB_0 hn h0).2]; rfl) rfl) ?_
                  refine SWl.rd rfl (Rd.move rfl) ?_
                  refine SWl.efg (S := []) rfl rfl (by rw [(consB_0 hn h0).1]; rfl) rfl (Ef.callN [] (con_known43) rfl trivial rfl) ?_
                  rintro _ rfl
                  refine SWl.rd rfl (Rd.pickY rfl (by rw [(consB_0 hn h0).1]; rfl) rfl) ?_
                  refine SWl.rd rfl (Rd.assign rfl) ?_
                  refine SWl.nil ?_
                  refine SN.then ?_
                  refine SW.ret (fn := Tryd.f3) (fun _ _ h => h) (Rs.le (Rs.one rfl (ResV.tmp rfl)) ?_)
                  exact le_bool_n (by rfl)
                · have h0 : 0 < m := by have := of_decide_eq_false hb146; omega
                  refine SW.skip ?_
                  refine SN.then ?_
                  refine SW.seq ?_
                  refine SW.draw [] (.r 0 (.r 1 (.r 2 (.r 3 (.r 4 (.r 5 (.r 6 (.r 7 (.r 8 (.n 9 (.n 10 (.r 11 (.r 12 (.n 13 (.r 14 (.r 15 .fin)) .no))) .no) .no)))))))))) (by kernel_rfl) (by kernel_rfl) (fun d _ _ _ _ h => by cases d <;> exact h) ?_
                  refine SWz.rd (i := 0) rfl rfl (Rd.move rfl) ?_
                  refine SWz.rd (i := 1) rfl rfl (Rd.eqi rfl rfl) ?_
                  refine SWz.rd (i := 2) rfl rfl (Rd.move rfl) ?_
                  refine SWz.rdg (i := 3) rfl rfl rfl (by rw [(consB_yes hn h0 hm).2]; rfl) rfl rfl (Rd.fieldAddr (n := 0) rfl (by kernel_rfl)) ?_
                  refine SWz.rdg (i := 4) rfl rfl rfl (by rw [(consB_yes hn h0 hm).2]; rfl) rfl rfl (Rd.loadB 4 rfl rfl rfl (by kernel_rfl) ap_nil) ?_
                  refine SWz.rdg (i := 5) rfl rfl rfl (by rw [(consB_yes hn h0 hm).2]; rfl) rfl rfl (Rd.move rfl) ?_
                  refine SWz.rdg (i := 6) rfl rfl rfl (by rw [(consB_yes hn h0 hm).2]; rfl) rfl rfl (Rd.move rfl) ?_
                  refine SWz.rdg (i := 7) rfl rfl rfl (by rw [(consB_yes hn h0 hm).2]; rfl) rfl rfl (Rd.shL (e := 44) 2 rfl rfl (by kernel_rfl) (by kernel_rfl) (by omega)) ?_
                  refine SWz.rdg (i := 8) rfl rfl rfl (by rw [(consB_yes hn h0 hm).2]; rfl) rfl rfl (Rd.move rfl) ?_
                  refine SWz.eflg (i := 9) rfl rfl rfl (by rw [(consB_yes hn h0 hm).2]; rfl) rfl (EfL.callR (con_consR _ ((Led.fits l).take n) m true _ rfl (fun e he => fits_fit e (List.mem_of_mem_take he)) (by simp; omega) (by omega) (by simp; omega) rfl) rfl ⟨Le.refl _, Le.refl _, Le.refl _, trivial⟩ rfl) ?_ SWz.no
                  rintro _ _ ⟨s167, rfl, rfl⟩
                  refine SWz.efng (i := 10) rfl rfl rfl (by rw [(consB_yes hn h0 hm).2]; rfl) rfl (Ef.callN [5] (con_sameR _ _ (by have := consB_len (Led.fits l) m n; omega)) rfl ⟨(sees_le (Le.refl _)), (sees_vec 5 rfl (by decide)), trivial⟩ rfl) ?_ SWz.no
                  rintro _ rfl
                  refine SWz.rd (i := 11) rfl rfl (Rd.pickY rfl (by rw [(consB_yes hn h0 hm).2]; rfl) rfl) ?_
                  refine SWz.rd (i := 12) rfl rfl (Rd.move rfl) ?_
                  refine SWz.efng (i := 13) rfl rfl rfl (by rw [(consB_yes hn h0 hm).1]; simp) rfl (Ef.callN [] (con_known43) rfl trivial rfl) ?_ SWz.no
                  rintro _ rfl
                  refine SWz.rd (i := 14) rfl rfl (Rd.pickY rfl (by rw [(consB_yes hn h0 hm).1]; simp) rfl) ?_
                  refine SWz.rd (i := 15) rfl rfl (Rd.assign rfl) ?_
                  refine SWz.nil ?_
                  refine SN.then ?_
                  refine SW.ret (fn := Tryd.f3) (fun _ _ h => h) (Rs.le (Rs.one rfl (ResV.tmp rfl)) ?_)
                  exact le_bool_n (by rfl)
          · have hge2 := of_decide_eq_false hb101; have hle2 := of_decide_eq_false hb105; obtain ⟨i, rfl⟩ := Int.eq_ofNat_of_zero_le (show 0 ≤ i by omega); have hi : i < n := by omega
            refine SW.seq ?_
            refine SW.draw [] (.r 0 (.r 1 (.r 2 (.r 3 (.r 4 (.r 5 (.r 6 (.r 7 (.r 8 (.n 9 (.n 10 (.r 11 (.r 12 .fin)) .no) .no)))))))))) (by kernel_rfl) (by kernel_rfl) (fun d _ _ _ _ h => by cases d <;> exact h) ?_
            refine SWz.rd (i := 0) rfl rfl (Rd.move rfl) ?_
            refine SWz.rd (i := 1) rfl rfl (Rd.nei rfl rfl) ?_
            refine SWz.rd (i := 2) rfl rfl (Rd.move rfl) ?_
            refine SWz.rdg (i := 3) rfl rfl rfl (by rw [(inclB_yes hn hi).2]; rfl) rfl rfl (Rd.fieldAddr (n := 0) rfl (by kernel_rfl)) ?_
            refine SWz.rdg (i := 4) rfl rfl rfl (by rw [(inclB_yes hn hi).2]; rfl) rfl rfl (Rd.loadB 3 rfl rfl rfl (by kernel_rfl) ap_nil) ?_
            refine SWz.rdg (i := 5) rfl rfl rfl (by rw [(inclB_yes hn hi).2]; rfl) rfl rfl (Rd.move rfl) ?_
            refine SWz.rdg (i := 6) rfl rfl rfl (by rw [(inclB_yes hn hi).2]; rfl) rfl rfl (Rd.move rfl) ?_
            refine SWz.rdg (i := 7) rfl rfl rfl (by rw [(inclB_yes hn hi).2]; rfl) rfl rfl (Rd.shL (e := 44) 2 rfl rfl (by kernel_rfl) (by kernel_rfl) (by omega)) ?_
            refine SWz.rdg (i := 8) rfl rfl rfl (by rw [(inclB_yes hn hi).2]; rfl) rfl rfl (Rd.move rfl) ?_
            refine SWz.eflg (i := 9) rfl rfl rfl (by rw [(inclB_yes hn hi).2]; rfl) rfl (EfL.callR (con_inclR _ ((Led.fits l).take n) i _ rfl (fun e he => fits_fit e (List.mem_of_mem_take he)) (by simp; omega) (by simp; omega) rfl) rfl ⟨Le.refl _, Le.refl _, trivial⟩ rfl) ?_ SWz.no
            rintro _ _ ⟨s123, rfl, rfl⟩
            refine SWz.efng (i := 10) rfl rfl rfl (by rw [(inclB_yes hn hi).2]; rfl) rfl (Ef.callN [5] (con_sameR _ _ (by have := inclB_len (Led.fits l) i n; omega)) rfl ⟨(sees_le (Le.refl _)), (sees_vec 5 rfl (by decide)), trivial⟩ rfl) ?_ SWz.no
            rintro _ rfl
            refine SWz.rdg (i := 11) rfl rfl rfl (by rw [(inclB_yes hn hi).2]; rfl) rfl rfl (Rd.not rfl) ?_
            refine SWz.rd (i := 12) rfl rfl (Rd.pickN rfl (by rw [(inclB_yes hn hi).2]; rfl) rfl) ?_
            refine SWz.nil ?_
            refine SN.then ?_
            refine SW.condF rfl (by rw [(inclB_yes hn hi).1]; simp) ?_
            refine SW.skip ?_
            refine SN.then ?_
            refine SW.seq ?_
            refine SW.seq ?_
            refine SW.region ?_
            refine SWl.rd rfl (Rd.move rfl) ?_
            refine SWl.rd rfl (Rd.lss rfl rfl) ?_
            refine SWl.rd rfl (Rd.move rfl) ?_
            refine SWl.split 129 rfl (fun hb129 => ?_) (fun hb129 => ?_)
            · have hm' : ¬ (0 ≤ (n : Int) ∧ (n : Int) ≤ (Led.fits l).length ∧ 0 ≤ m ∧ m ≤ (n : Int)) := by have := of_decide_eq_true hb129; omega
              refine SWl.off rfl rfl (hb129) rfl rfl ?_
              refine SWl.off rfl rfl (hb129) rfl rfl ?_
              refine SWl.off rfl rfl (hb129) rfl rfl ?_
              refine SWl.rd rfl (Rd.pickY rfl (hb129) rfl) ?_
              refine SWl.nil ?_
              refine SN.then ?_
              refine SW.condT rfl (rfl) ?_
              refine SW.seq ?_
              refine SW.region ?_
              refine SWl.rd rfl (Rd.move rfl) ?_
              refine SWl.rd rfl (Rd.eqi rfl rfl) ?_
              refine SWl.rd rfl (Rd.move rfl) ?_
              refine SWl.rdg rfl rfl (by rw [(consB_no hm').2]; rfl) rfl rfl (Rd.fieldAddr (n := 0) rfl (by kernel_rfl)) ?_
              refine SWl.rdg rfl rfl (by rw [(consB_no hm').2]; rfl) rfl rfl (Rd.loadB 4 rfl rfl rfl (by kernel_rfl) ap_nil) ?_
              refine SWl.rdg rfl rfl (by rw [(consB_no hm').2]; rfl) rfl rfl (Rd.lenR (e := 28) rfl (by kernel_rfl)) ?_
              refine SWl.rdg rfl rfl (by rw [(consB_no hm').2]; rfl) rfl rfl (Rd.eqi rfl rfl) ?_
              refine SWl.rd rfl (Rd.pickY rfl (by rw [(consB_no hm').2]; rfl) rfl) ?_
              refine SWl.rd rfl (Rd.move rfl) ?_
              refine SWl.efg (S := []) rfl rfl (by rw [(consB_no hm').1]; rfl) rfl (Ef.callN [] (con_known43) rfl trivial rfl) ?_
              rintro _ rfl
              refine SWl.rd rfl (Rd.pickY rfl (by rw [(consB_no hm').1]; rfl) rfl) ?_
              refine SWl.rd rfl (Rd.assign rfl) ?_
              refine SWl.nil ?_
              refine SN.then ?_
              refine SW.ret (fn := Tryd.f3) (fun _ _ h => h) (Rs.le (Rs.one rfl (ResV.tmp rfl)) ?_)
              exact le_bool_n (by rfl)
            · skip
              refine SWl.rdg rfl rfl (hb129) rfl rfl (Rd.move rfl) ?_
              refine SWl.rdg rfl rfl (hb129) rfl rfl (Rd.move rfl) ?_
              refine SWl.rdg rfl rfl (hb129) rfl rfl (Rd.gtr rfl rfl) ?_
              refine SWl.rd rfl (Rd.pickN rfl (hb129) rfl) ?_
              refine SWl.nil ?_
              refine SN.then ?_
              refine SW.cond rfl (fun hb133 => ?_) (fun hb133 => ?_)
              · have hm' : ¬ (0 ≤ (n : Int) ∧ (n : Int) ≤ (Led.fits l).length ∧ 0 ≤ m ∧ m ≤ (n : Int)) := by have := of_decide_eq_true hb133; omega
                refine SW.seq ?_
                refine SW.region ?_
                refine SWl.rd rfl (Rd.move rfl) ?_
                refine SWl.rd rfl (Rd.eqi rfl rfl) ?_
                refine SWl.rd rfl (Rd.move rfl) ?_
                refine SWl.rdg rfl rfl (by rw [(consB_no hm').2]; rfl) rfl rfl (Rd.fieldAddr (n := 0) rfl (by kernel_rfl)) ?_
                refine SWl.rdg rfl rfl (by rw [(consB_no hm').2]; rfl) rfl rfl (Rd.loadB 4 rfl rfl rfl (by kernel_rfl) ap_nil) ?_
                refine SWl.rdg rfl rfl (by rw [(consB_no hm').2]; rfl) rfl rfl (Rd.lenR (e := 28) rfl (by kernel_rfl)) ?_
                refine SWl.rdg rfl rfl (by rw [(consB_no hm').2]; rfl) rfl rfl (Rd.eqi rfl rfl) ?_
                refine SWl.rd rfl (Rd.pickY rfl (by rw [(consB_no hm').2]; rfl) rfl) ?_
                refine SWl.rd rfl (Rd.move rfl) ?_
                refine SWl.efg (S := []) rfl rfl (by rw [(consB_no hm').1]; rfl) rfl (Ef.callN [] (con_known43) rfl trivial rfl) ?_
                rintro _ rfl
                refine SWl.rd rfl (Rd.pickY rfl (by rw [(consB_no hm').1]; rfl) rfl) ?_
                refine SWl.rd rfl (Rd.assign rfl) ?_
                refine SWl.nil ?_
                refine SN.then ?_
                refine SW.ret (fn := Tryd.f3) (fun _ _ h => h) (Rs.le (Rs.one rfl (ResV.tmp rfl)) ?_)
                exact le_bool_n (by rfl)
              · have hge3 := of_decide_eq_false hb129; have hle3 := of_decide_eq_false hb133; obtain ⟨m, rfl⟩ := Int.eq_ofNat_of_zero_le (show 0 ≤ m by omega); have hm : m ≤ n := by omega
                refine SW.skip ?_
                refine SN.then ?_
                refine SW.seq ?_
                refine SW.seq ?_
                refine SW.region ?_
                refine SWl.rd rfl (Rd.move rfl) ?_
                refine SWl.rd rfl (Rd.eqi rfl rfl) ?_
                refine SWl.nil ?_
                refine SN.then ?_
                refine SW.cond rfl (fun hb146 => ?_) (fun hb146 => ?_)
                · have h0 : m = 0 := by have := of_decide_eq_true hb146; omega
                  refine SW.seq ?_
                  refine SW.region ?_
                  refine SWl.rd rfl (Rd.move rfl) ?_
                  refine SWl.rd rfl (Rd.eqi rfl rfl) ?_
                  refine SWl.rd rfl (Rd.move rfl) ?_
                  refine SWl.rdg rfl rfl (by rw [(consB_0 hn h0).2]; rfl) rfl rfl (Rd.fieldAddr (n := 0) rfl (by kernel_rfl)) ?_
                  refine SWl.rdg rfl rfl (by rw [(consB_0 hn h0).2]; rfl) rfl rfl (Rd.loadB 4 rfl rfl rfl (by kernel_rfl) ap_nil) ?_
                  refine SWl.rdg rfl rfl (by rw [(consB_0 hn h0).2]; rfl) rfl rfl (Rd.lenR (e := 28) rfl (by kernel_rfl)) ?_
                  refine SWl.rdg rfl rfl (by rw [(consB_0 hn h0).2]; rfl) rfl rfl (Rd.eqi rfl rfl) ?_
                  refine SWl.rd rfl (Rd.pickY rfl (by rw [(consB_0 hn h0).2]; rfl) rfl) ?_
                  refine SWl.rd rfl (Rd.move rfl) ?_
                  refine SWl.efg (S := []) rfl rfl (by rw [(consB_0 hn h0).1]; rfl) rfl (Ef.callN [] (con_known43) rfl trivial rfl) ?_
                  rintro _ rfl
                  refine SWl.rd rfl (Rd.pickY rfl (by rw [(consB_0 hn h0).1]; rfl) rfl) ?_
                  refine SWl.rd rfl (Rd.assign rfl) ?_
                  refine SWl.nil ?_
                  refine SN.then ?_
                  refine SW.ret (fn := Tryd.f3) (fun _ _ h => h) (Rs.le (Rs.one rfl (ResV.tmp rfl)) ?_)
                  exact le_bool_n (by rfl)
                · have h0 : 0 < m := by have := of_decide_eq_false hb146; omega
                  refine SW.skip ?_
                  refine SN.then ?_
                  refine SW.seq ?_
                  refine SW.draw [] (.r 0 (.r 1 (.r 2 (.r 3 (.r 4 (.r 5 (.r 6 (.r 7 (.r 8 (.n 9 (.n 10 (.r 11 (.r 12 (.n 13 (.r 14 (.r 15 .fin)) .no))) .no) .no)))))))))) (by kernel_rfl) (by kernel_rfl) (fun d _ _ _ _ h => by cases d <;> exact h) ?_
                  refine SWz.rd (i := 0) rfl rfl (Rd.move rfl) ?_
                  refine SWz.rd (i := 1) rfl rfl (Rd.eqi rfl rfl) ?_
                  refine SWz.rd (i := 2) rfl rfl (Rd.move rfl) ?_
                  refine SWz.rdg (i := 3) rfl rfl rfl (by rw [(consB_yes hn h0 hm).2]; rfl) rfl rfl (Rd.fieldAddr (n := 0) rfl (by kernel_rfl)) ?_
                  refine SWz.rdg (i := 4) rfl rfl rfl (by rw [(consB_yes hn h0 hm).2]; rfl) rfl rfl (Rd.loadB 4 rfl rfl rfl (by kernel_rfl) ap_nil) ?_
                  refine SWz.rdg (i := 5) rfl rfl rfl (by rw [(consB_yes hn h0 hm).2]; rfl) rfl rfl (Rd.move rfl) ?_
                  refine SWz.rdg (i := 6) rfl rfl rfl (by rw [(consB_yes hn h0 hm).2]; rfl) rfl rfl (Rd.move rfl) ?_
                  refine SWz.rdg (i := 7) rfl rfl rfl (by rw [(consB_yes hn h0 hm).2]; rfl) rfl rfl (Rd.shL (e := 44) 2 rfl rfl (by kernel_rfl) (by kernel_rfl) (by omega)) ?_
                  refine SWz.rdg (i := 8) rfl rfl rfl (by rw [(consB_yes hn h0 hm).2]; rfl) rfl rfl (Rd.move rfl) ?_
                  refine SWz.eflg (i := 9) rfl rfl rfl (by rw [(consB_yes hn h0 hm).2]; rfl) rfl (EfL.callR (con_consR _ ((Led.fits l).take n) m true _ rfl (fun e he => fits_fit e (List.mem_of_mem_take he)) (by simp; omega) (by omega) (by simp; omega) rfl) rfl ⟨Le.refl _, Le.refl _, Le.refl _, trivial⟩ rfl) ?_ SWz.no
                  rintro _ _ ⟨s167, rfl, rfl⟩
                  refine SWz.efng (i := 10) rfl rfl rfl (by rw [(consB_yes hn h0 hm).2]; rfl) rfl (Ef.callN [6] (con_sameR _ _ (by have := consB_len (Led.fits l) m n; omega)) rfl ⟨(sees_le (Le.refl _)), (sees_vec 6 rfl (by decide)), trivial⟩ rfl) ?_ SWz.no
                  rintro _ rfl
                  refine SWz.rd (i := 11) rfl rfl (Rd.pickY rfl (by rw [(consB_yes hn h0 hm).2]; rfl) rfl) ?_
                  refine SWz.rd (i := 12) rfl rfl (Rd.move rfl) ?_
                  refine SWz.efng (i := 13) rfl rfl rfl (by rw [(consB_yes hn h0 hm).1]; simp) rfl (Ef.callN [] (con_known43) rfl trivial rfl) ?_ SWz.no
                  rintro _ rfl
                  refine SWz.rd (i := 14) rfl rfl (Rd.pickY rfl (by rw [(consB_yes hn h0 hm).1]; simp) rfl) ?_
                  refine SWz.rd (i := 15) rfl rfl (Rd.assign rfl) ?_
                  refine SWz.nil ?_
                  refine SN.then ?_
                  refine SW.ret (fn := Tryd.f3) (fun _ _ h => h) (Rs.le (Rs.one rfl (ResV.tmp rfl)) ?_)
                  exact le_bool_n (by rfl)
end Sx
end Go.Proofs.YtonjpfpdpfonnaaDoor
