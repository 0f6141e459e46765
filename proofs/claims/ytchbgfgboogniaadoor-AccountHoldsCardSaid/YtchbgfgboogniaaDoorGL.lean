/-
  WIRE: value, and the reader's methods.
  WIRE: Read, Err, End; the reference's Ungroup.
  WIRE: the reference's readers.
  WIRE: what is written is read again, and what is read was written so; in plain terms.
-/
import Derived.Test.YtchbgfgboogniaaDoorGK
namespace Go.Proofs.YtchbgfgboogniaaDoor
open Go.RowKit
namespace Sx
set_option maxHeartbeats 4000000 in
set_option maxRecDepth 100000 in
theorem con_valueCount_ok (gr gp gl gn : Nat) (b : List UInt8) (k : Nat) (hb : b.length ≤ 1000000) (lim : Int) (hl : 0 ≤ lim) (n m : Nat) (h : (rdC lim) (b.drop k) = .ok (n, m)) : ConR Tryd.prog 89 [.c gr [iD 0, boolD true, bD b, iD ((k : Nat) : Int)], .c gp [isD (.pointer (some ⟨gr, 0, none⟩))], .c gl [iD lim], .c gn [iD 0]] [isD (.pointer (some ⟨gr, 0, none⟩)), isD (.func (.func 90) #[] #[.pointer (some ⟨gp, 0, none⟩), .pointer (some ⟨gl, 0, none⟩), .pointer (some ⟨gn, 0, none⟩)])] (fun _ : Unit => [.c gr [iD 0, boolD true, bD b, iD ((k + m : Nat) : Int)], .c gp [isD (.pointer (some ⟨gr, 0, none⟩))], .c gl [iD lim], .c gn [iD (n : Int)]]) (fun _ : Unit => isD (.tuple #[])) := by
  refine con_ofRD Tryd.func89 (by kernel_rfl) rfl (by kernel_rfl) fun base w0 => ?_
  refine SW.seq ?_
  refine SW.region ?_
  refine SWl.ef (S := []) (Ef.boxV rfl (fun _ _ _ h => one_cells (One.h _ _ _ h)) rfl) ?_
  rintro _ ⟨g2, rfl⟩
  refine SWl.nil ?_
  refine SN.then ?_
  refine SW.seq ?_
  refine SW.seq ?_
  refine SW.region ?_
  refine SWl.rd rfl (Rd.loadB 4 rfl rfl rfl (by kernel_rfl) ap_nil) ?_
  refine SWl.ef (S := []) (Ef.callN [0] (con_rvalid b k 0) rfl ⟨(sees_box 0 rfl (by decide) ⟨(sees_le (Le.refl _)), (sees_le (Le.refl _)), (sees_le (Le.refl _)), (sees_le (Le.refl _)), trivial⟩), trivial⟩ rfl) ?_
  rintro _ rfl
  refine SWl.rd rfl (Rd.not rfl) ?_
  refine SWl.rd rfl (Rd.move rfl) ?_
  refine SWl.rdg rfl rfl (rfl) rfl rfl (Rd.loadB 4 rfl rfl rfl (by kernel_rfl) ap_nil) ?_
  refine SWl.rdg rfl rfl (rfl) rfl rfl (Rd.nilCheck rfl) ?_
  refine SWl.rdg rfl rfl (rfl) rfl rfl (Rd.fieldAddr (n := 0) rfl (by kernel_rfl)) ?_
  refine SWl.rdg rfl rfl (rfl) rfl rfl (Rd.fieldAddr (n := 0) rfl (by kernel_rfl)) ?_
  refine SWl.rdg rfl rfl (rfl) rfl rfl (Rd.loadB 0 rfl rfl rfl (by kernel_rfl) ap_nil) ?_
  refine SWl.rdg rfl rfl (rfl) rfl rfl (Rd.nei rfl rfl) ?_
  refine SWl.rd rfl (Rd.pickN rfl (rfl) rfl) ?_
  refine SWl.nil ?_
  refine SN.then ?_
  refine SW.condF rfl (by decide) ?_
  refine SW.skip ?_
  refine SN.then ?_
  refine SW.seq ?_
  refine SW.region ?_
  refine SWl.rd rfl (Rd.loadB 4 rfl rfl rfl (by kernel_rfl) ap_nil) ?_
  refine SWl.rd rfl (Rd.nilCheck rfl) ?_
  refine SWl.rd rfl (Rd.fieldAddr (n := 3) rfl (by kernel_rfl)) ?_
  refine SWl.rd rfl (Rd.loadB 0 rfl rfl rfl (by kernel_rfl) ap_nil) ?_
  refine SWl.ef (S := []) (Ef.alloc (zs := [.int .i64 0]) (by kernel_rfl) rfl) ?_
  rintro _ ⟨g4, rfl⟩
  refine SWl.ef (S := [_]) (Ef.storeV 5 rfl rfl rfl (by kernel_rfl) rfl (List.mem_singleton.2 rfl)) ?_
  rintro _ rfl
  refine SWl.nil ?_
  refine SN.then ?_
  refine SW.seq ?_
  refine SW.region ?_
  refine SWl.rd rfl (Rd.makeFunc [.pointer (some ⟨g4, 0, none⟩), .pointer (some ⟨g2, 0, none⟩)] rfl) ?_
  refine SWl.defer (cap := [.pointer (some ⟨g4, 0, none⟩), .pointer (some ⟨g2, 0, none⟩)]) rfl ?_
  refine SWl.nil ?_
  refine SN.then ?_
  refine SW.region ?_
  refine SWl.rd rfl (Rd.move rfl) ?_
  refine SWl.ef (Ef.callVR (cap := [.pointer (some ⟨gp, 0, none⟩), .pointer (some ⟨gl, 0, none⟩), .pointer (some ⟨gn, 0, none⟩)]) [0, 1, 2, 3] (con_clCount gr gp gl gn b k hb lim hl n m h) rfl rfl ⟨Le.refl _, Le.refl _, Le.refl _, trivial⟩ (by decide) ⟨⟨_, rfl, LeAll.refl _⟩, ⟨⟨_, rfl, LeAll.refl _⟩, ⟨⟨_, rfl, LeAll.refl _⟩, ⟨⟨_, rfl, LeAll.refl _⟩, trivial⟩⟩⟩⟩ (fun _ h => h) rfl) ?_
  rintro _ ⟨⟨⟩, rfl⟩
  refine SWl.nil ?_
  refine SN.retL ?_
  refine RL.defer (cap := [.pointer (some ⟨g4, 0, none⟩), .pointer (some ⟨g2, 0, none⟩)]) [] (by simp) (con_vd_ret g4 g2) (by decide) trivial ?_
  refine RL.fin (()) [2, 3, 4, 5] (Rs.le (Rs.none rfl) ?_) (by decide) ⟨⟨_, rfl, LeAll.refl _⟩, ⟨⟨_, rfl, LeAll.refl _⟩, ⟨⟨_, rfl, LeAll.refl _⟩, ⟨⟨_, rfl, LeAll.refl _⟩, trivial⟩⟩⟩⟩
  exact Le.refl _
set_option maxHeartbeats 4000000 in
set_option maxRecDepth 100000 in
theorem con_valueCount_bad (gr gp gl gn : Nat) (b : List UInt8) (k : Nat) (hb : b.length ≤ 1000000) (lim : Int) (hl : 0 ≤ lim) (E : Int) (h : (rdC lim) (b.drop k) = .error E) : ConR Tryd.prog 89 [.c gr [iD 0, boolD true, bD b, iD ((k : Nat) : Int)], .c gp [isD (.pointer (some ⟨gr, 0, none⟩))], .c gl [iD lim], .c gn [iD 0]] [isD (.pointer (some ⟨gr, 0, none⟩)), isD (.func (.func 90) #[] #[.pointer (some ⟨gp, 0, none⟩), .pointer (some ⟨gl, 0, none⟩), .pointer (some ⟨gn, 0, none⟩)])] (fun _ : Unit => [.c gr [iD E, boolD true, bD b, iD ((k : Nat) : Int)], .c gp [isD (.pointer (some ⟨gr, 0, none⟩))], .c gl [iD lim], .c gn [iD 0]]) (fun _ : Unit => isD (.tuple #[])) := by
  refine con_ofRD Tryd.func89 (by kernel_rfl) rfl (by kernel_rfl) fun base w0 => ?_
  refine SW.seq ?_
  refine SW.region ?_
  refine SWl.ef (S := []) (Ef.boxV rfl (fun _ _ _ h => one_cells (One.h _ _ _ h)) rfl) ?_
  rintro _ ⟨g2, rfl⟩
  refine SWl.nil ?_
  refine SN.then ?_
  refine SW.seq ?_
  refine SW.seq ?_
  refine SW.region ?_
  refine SWl.rd rfl (Rd.loadB 4 rfl rfl rfl (by kernel_rfl) ap_nil) ?_
  refine SWl.ef (S := []) (Ef.callN [0] (con_rvalid b k 0) rfl ⟨(sees_box 0 rfl (by decide) ⟨(sees_le (Le.refl _)), (sees_le (Le.refl _)), (sees_le (Le.refl _)), (sees_le (Le.refl _)), trivial⟩), trivial⟩ rfl) ?_
  rintro _ rfl
  refine SWl.rd rfl (Rd.not rfl) ?_
  refine SWl.rd rfl (Rd.move rfl) ?_
  refine SWl.rdg rfl rfl (rfl) rfl rfl (Rd.loadB 4 rfl rfl rfl (by kernel_rfl) ap_nil) ?_
  refine SWl.rdg rfl rfl (rfl) rfl rfl (Rd.nilCheck rfl) ?_
  refine SWl.rdg rfl rfl (rfl) rfl rfl (Rd.fieldAddr (n := 0) rfl (by kernel_rfl)) ?_
  refine SWl.rdg rfl rfl (rfl) rfl rfl (Rd.fieldAddr (n := 0) rfl (by kernel_rfl)) ?_
  refine SWl.rdg rfl rfl (rfl) rfl rfl (Rd.loadB 0 rfl rfl rfl (by kernel_rfl) ap_nil) ?_
  refine SWl.rdg rfl rfl (rfl) rfl rfl (Rd.nei rfl rfl) ?_
  refine SWl.rd rfl (Rd.pickN rfl (rfl) rfl) ?_
  refine SWl.nil ?_
  refine SN.then ?_
  refine SW.condF rfl (by decide) ?_
  refine SW.skip ?_
  refine SN.then ?_
  refine SW.seq ?_
  refine SW.region ?_
  refine SWl.rd rfl (Rd.loadB 4 rfl rfl rfl (by kernel_rfl) ap_nil) ?_
  refine SWl.rd rfl (Rd.nilCheck rfl) ?_
  refine SWl.rd rfl (Rd.fieldAddr (n := 3) rfl (by kernel_rfl)) ?_
  refine SWl.rd rfl (Rd.loadB 0 rfl rfl rfl (by kernel_rfl) ap_nil) ?_
  refine SWl.ef (S := []) (Ef.alloc (zs := [.int .i64 0]) (by kernel_rfl) rfl) ?_
  rintro _ ⟨g4, rfl⟩
  refine SWl.ef (S := [_]) (Ef.storeV 5 rfl rfl rfl (by kernel_rfl) rfl (List.mem_singleton.2 rfl)) ?_
  rintro _ rfl
  refine SWl.nil ?_
  refine SN.then ?_
  refine SW.seq ?_
  refine SW.region ?_
  refine SWl.rd rfl (Rd.makeFunc [.pointer (some ⟨g4, 0, none⟩), .pointer (some ⟨g2, 0, none⟩)] rfl) ?_
  refine SWl.defer (cap := [.pointer (some ⟨g4, 0, none⟩), .pointer (some ⟨g2, 0, none⟩)]) rfl ?_
  refine SWl.nil ?_
  refine SN.then ?_
  refine SW.region ?_
  refine SWl.rd rfl (Rd.move rfl) ?_
  refine SWl.callPRV (cap := [.pointer (some ⟨gp, 0, none⟩), .pointer (some ⟨gl, 0, none⟩), .pointer (some ⟨gn, 0, none⟩)]) [0, 1, 2, 3] (con_clCount_bad gr gp gl gn b k hb lim hl E h) rfl rfl ⟨Le.refl _, Le.refl _, Le.refl _, trivial⟩ (by decide) ⟨⟨_, rfl, LeAll.refl _⟩, ⟨⟨_, rfl, LeAll.refl _⟩, ⟨⟨_, rfl, LeAll.refl _⟩, ⟨⟨_, rfl, LeAll.refl _⟩, trivial⟩⟩⟩⟩ ?_
  intro q
  repeat (first | refine SP.then ?_ | refine SP.block ?_)
  refine SP.retL ?_
  refine RL.defer (cap := [.pointer (some ⟨g4, 0, none⟩), .pointer (some ⟨g2, 0, none⟩)]) [1, 0, 2] (by simp) (con_vd_pan g4 g2 gr b k q E) (by decide) ⟨⟨_, rfl, LeAll.refl _⟩, ⟨_, rfl, LeAll.refl _⟩, ⟨_, rfl, LeAll.refl _⟩, trivial⟩ ?_
  refine RL.fin (()) [5, 0, 1, 2] (Rs.le (Rs.none rfl) ?_) (by decide) ⟨⟨_, rfl, LeAll.refl _⟩, ⟨⟨_, rfl, LeAll.refl _⟩, ⟨⟨_, rfl, LeAll.refl _⟩, ⟨⟨_, rfl, LeAll.refl _⟩, trivial⟩⟩⟩⟩
  exact Le.refl _
set_option maxHeartbeats 4000000 in
set_option maxRecDepth 100000 in
theorem con_valueCount_skip (gr gp gl gn : Nat) (b : List UInt8) (k : Nat) (hb : b.length ≤ 1000000) (lim : Int) (hl : 0 ≤ lim) (e : Int) (he : e ≠ 0) : ConR Tryd.prog 89 [.c gr [iD e, boolD true, bD b, iD ((k : Nat) : Int)], .c gp [isD (.pointer (some ⟨gr, 0, none⟩))], .c gl [iD lim], .c gn [iD 0]] [isD (.pointer (some ⟨gr, 0, none⟩)), isD (.func (.func 90) #[] #[.pointer (some ⟨gp, 0, none⟩), .pointer (some ⟨gl, 0, none⟩), .pointer (some ⟨gn, 0, none⟩)])] (fun _ : Unit => [.c gr [iD e, boolD true, bD b, iD ((k : Nat) : Int)], .c gp [isD (.pointer (some ⟨gr, 0, none⟩))], .c gl [iD lim], .c gn [iD 0]]) (fun _ : Unit => isD (.tuple #[])) := by
  refine con_ofRD Tryd.func89 (by kernel_rfl) rfl (by kernel_rfl) fun base w0 => ?_
  refine SW.seq ?_
  refine SW.region ?_
  refine SWl.ef (S := []) (Ef.boxV rfl (fun _ _ _ h => one_cells (One.h _ _ _ h)) rfl) ?_
  rintro _ ⟨g2, rfl⟩
  refine SWl.nil ?_
  refine SN.then ?_
  refine SW.seq ?_
  refine SW.seq ?_
  refine SW.region ?_
  refine SWl.rd rfl (Rd.loadB 4 rfl rfl rfl (by kernel_rfl) ap_nil) ?_
  refine SWl.ef (S := []) (Ef.callN [0] (con_rvalid b k e) rfl ⟨(sees_box 0 rfl (by decide) ⟨(sees_le (Le.refl _)), (sees_le (Le.refl _)), (sees_le (Le.refl _)), (sees_le (Le.refl _)), trivial⟩), trivial⟩ rfl) ?_
  rintro _ rfl
  refine SWl.rd rfl (Rd.not rfl) ?_
  refine SWl.rd rfl (Rd.move rfl) ?_
  refine SWl.rdg rfl rfl (rfl) rfl rfl (Rd.loadB 4 rfl rfl rfl (by kernel_rfl) ap_nil) ?_
  refine SWl.rdg rfl rfl (rfl) rfl rfl (Rd.nilCheck rfl) ?_
  refine SWl.rdg rfl rfl (rfl) rfl rfl (Rd.fieldAddr (n := 0) rfl (by kernel_rfl)) ?_
  refine SWl.rdg rfl rfl (rfl) rfl rfl (Rd.fieldAddr (n := 0) rfl (by kernel_rfl)) ?_
  refine SWl.rdg rfl rfl (rfl) rfl rfl (Rd.loadB 0 rfl rfl rfl (by kernel_rfl) ap_nil) ?_
  refine SWl.rdg rfl rfl (rfl) rfl rfl (Rd.nei rfl rfl) ?_
  refine SWl.rd rfl (Rd.pickN rfl (rfl) rfl) ?_
  refine SWl.nil ?_
  refine SN.then ?_
  refine SW.condT rfl (by simp [he]) ?_
  refine SW.retL (fun _ _ h => h) ?_
  refine RL.fin (()) [0, 1, 2, 3] (Rs.le (Rs.none rfl) ?_) (by decide) ⟨⟨_, rfl, LeAll.refl _⟩, ⟨⟨_, rfl, LeAll.refl _⟩, ⟨⟨_, rfl, LeAll.refl _⟩, ⟨⟨_, rfl, LeAll.refl _⟩, trivial⟩⟩⟩⟩
  exact Le.refl _
theorem con_valueCount (gr gp gl gn : Nat) (b : List UInt8) (hb : b.length ≤ 1000000) (lim : Int) (hl : 0 ≤ lim) (s : Int × Nat) (r : RT) (hs : RRel b s r) : ConR Tryd.prog 89 [.c gr [iD s.1, boolD true, bD b, iD ((s.2 : Nat) : Int)], .c gp [isD (.pointer (some ⟨gr, 0, none⟩))], .c gl [iD lim], .c gn [iD 0]] [isD (.pointer (some ⟨gr, 0, none⟩)), isD (.func (.func 90) #[] #[.pointer (some ⟨gp, 0, none⟩), .pointer (some ⟨gl, 0, none⟩), .pointer (some ⟨gn, 0, none⟩)])] (fun t : RdS b (stC lim r).2 => [.c gr [iD t.1.1, boolD true, bD b, iD ((t.1.2 : Nat) : Int)], .c gp [isD (.pointer (some ⟨gr, 0, none⟩))], .c gl [iD lim], .c gn [iD (stC lim r).1]]) (fun _ => isD (.tuple #[])) := by
  obtain ⟨e, k⟩ := s
  obtain ⟨p, e'⟩ := r
  obtain ⟨h1, h2, h3⟩ := hs
  dsimp only at h1 h2 h3
  subst h1
  by_cases he : e = 0
  · subst he
    obtain rfl := h3 rfl
    rcases hr : (rdC lim) (b.drop k) with E | ⟨n, m⟩
    · rw [show stC lim ⟨b.drop k, 0⟩ = _ from stG_bad rfl hr]
      exact (con_valueCount_bad gr gp gl gn b k hb lim hl E hr).map (fun _ => ⟨(E, k), RRel.bad h2 (rdC_ne hr)⟩) (fun _ => rfl) (fun _ => rfl)
    · rw [show stC lim ⟨b.drop k, 0⟩ = _ from stG_ok rfl hr]
      exact (con_valueCount_ok gr gp gl gn b k hb lim hl n m hr).map (fun _ => ⟨(0, k + m), RRel.good (rdC_in h2 hr)⟩) (fun _ => rfl) (fun _ => rfl)
  · rw [show stC lim ⟨p, e⟩ = _ from stG_skip he]
    exact (con_valueCount_skip gr gp gl gn b k hb lim hl e he).map (fun _ => ⟨(e, k), rfl, h2, h3⟩) (fun _ => rfl) (fun _ => rfl)
set_option maxHeartbeats 4000000 in
set_option maxRecDepth 100000 in
theorem con_rCount (gr : Nat) (b : List UInt8) (hb : b.length ≤ 1000000) (lim : Int) (hl : 0 ≤ lim) (s : Int × Nat) (r : RT) (hs : RRel b s r) : ConR Tryd.prog 47 [.c gr [iD s.1, boolD true, bD b, iD ((s.2 : Nat) : Int)]] [isD (.pointer (some ⟨gr, 0, none⟩)), iD lim] (fun t : RdS b (stC lim r).2 => [.c gr [iD t.1.1, boolD true, bD b, iD ((t.1.2 : Nat) : Int)]]) (fun t : RdS b (stC lim r).2 => iD (stC lim r).1) := by
  refine con_ofR Tryd.func47 (by kernel_rfl) rfl (by kernel_rfl) fun base w0 => ?_
  refine SW.seq ?_
  refine SW.region ?_
  refine SWl.ef (S := []) (Ef.boxV rfl (fun _ _ _ h => one_cells (One.h _ _ _ h)) rfl) ?_
  rintro _ ⟨g2, rfl⟩
  refine SWl.ef (S := []) (Ef.boxV rfl (fun _ _ _ h => one_cells (One.h _ _ _ h)) rfl) ?_
  rintro _ ⟨g3, rfl⟩
  refine SWl.rd rfl (Rd.assign rfl) ?_
  refine SWl.nil ?_
  refine SN.then ?_
  refine SW.seq ?_
  refine SW.region ?_
  refine SWl.ef (S := []) (Ef.alloc (zs := [.int .i64 0]) (by kernel_rfl) rfl) ?_
  rintro _ ⟨g5, rfl⟩
  refine SWl.ef (S := [_]) (Ef.storeV 3 rfl rfl rfl (by kernel_rfl) rfl (List.mem_singleton.2 rfl)) ?_
  rintro _ rfl
  refine SWl.nil ?_
  refine SN.then ?_
  refine SW.seq ?_
  refine SW.region ?_
  refine SWl.rd rfl (Rd.loadB 1 rfl rfl rfl (by kernel_rfl) ap_nil) ?_
  refine SWl.rd rfl (Rd.makeFunc [.pointer (some ⟨g2, 0, none⟩), .pointer (some ⟨g3, 0, none⟩), .pointer (some ⟨g5, 0, none⟩)] rfl) ?_
  refine SWl.ef (Ef.callR [0, 1, 2, 3] (con_valueCount gr g2 g3 g5 b hb lim hl s r hs) rfl ⟨Le.refl _, Le.refl _, trivial⟩ (by decide) ⟨⟨_, rfl, LeAll.refl _⟩, ⟨⟨_, rfl, LeAll.refl _⟩, ⟨⟨_, rfl, LeAll.refl _⟩, ⟨⟨_, rfl, LeAll.refl _⟩, trivial⟩⟩⟩⟩ (fun _ h => h) rfl) ?_
  rintro _ ⟨t8, rfl⟩
  refine SWl.nil ?_
  refine SN.then ?_
  refine SW.seq ?_
  refine SW.region ?_
  refine SWl.rd rfl (Rd.loadB 3 rfl rfl rfl (by kernel_rfl) ap_nil) ?_
  refine SWl.rd rfl (Rd.assign rfl) ?_
  refine SWl.nil ?_
  refine SN.then ?_
  refine SW.retR (fn := Tryd.f47) (t8) [0] (fun _ _ h => h) (Rs.one rfl (ResV.tmp rfl)) (by decide) ⟨⟨_, rfl, LeAll.refl _⟩, trivial⟩
set_option maxHeartbeats 4000000 in
set_option maxRecDepth 100000 in
theorem con_valueUint_ok (gr gp gn : Nat) (b : List UInt8) (k : Nat) (hb : b.length ≤ 1000000) (n m : Nat) (h : (rdg 9 true) (b.drop k) = .ok (n, m)) : ConR Tryd.prog 89 [.c gr [iD 0, boolD true, bD b, iD ((k : Nat) : Int)], .c gp [isD (.pointer (some ⟨gr, 0, none⟩))], .c gn [iD 0]] [isD (.pointer (some ⟨gr, 0, none⟩)), isD (.func (.func 95) #[] #[.pointer (some ⟨gp, 0, none⟩), .pointer (some ⟨gn, 0, none⟩)])] (fun _ : Unit => [.c gr [iD 0, boolD true, bD b, iD ((k + m : Nat) : Int)], .c gp [isD (.pointer (some ⟨gr, 0, none⟩))], .c gn [iD (n : Int)]]) (fun _ : Unit => isD (.tuple #[])) := by
  refine con_ofRD Tryd.func89 (by kernel_rfl) rfl (by kernel_rfl) fun base w0 => ?_
  refine SW.seq ?_
  refine SW.region ?_
  refine SWl.ef (S := []) (Ef.boxV rfl (fun _ _ _ h => one_cells (One.h _ _ _ h)) rfl) ?_
  rintro _ ⟨g2, rfl⟩
  refine SWl.nil ?_
  refine SN.then ?_
  refine SW.seq ?_
  refine SW.seq ?_
  refine SW.region ?_
  refine SWl.rd rfl (Rd.loadB 3 rfl rfl rfl (by kernel_rfl) ap_nil) ?_
  refine SWl.ef (S := []) (Ef.callN [0] (con_rvalid b k 0) rfl ⟨(sees_box 0 rfl (by decide) ⟨(sees_le (Le.refl _)), (sees_le (Le.refl _)), (sees_le (Le.refl _)), (sees_le (Le.refl _)), trivial⟩), trivial⟩ rfl) ?_
  rintro _ rfl
  refine SWl.rd rfl (Rd.not rfl) ?_
  refine SWl.rd rfl (Rd.move rfl) ?_
  refine SWl.rdg rfl rfl (rfl) rfl rfl (Rd.loadB 3 rfl rfl rfl (by kernel_rfl) ap_nil) ?_
  refine SWl.rdg rfl rfl (rfl) rfl rfl (Rd.nilCheck rfl) ?_
  refine SWl.rdg rfl rfl (rfl) rfl rfl (Rd.fieldAddr (n := 0) rfl (by kernel_rfl)) ?_
  refine SWl.rdg rfl rfl (rfl) rfl rfl (Rd.fieldAddr (n := 0) rfl (by kernel_rfl)) ?_
  refine SWl.rdg rfl rfl (rfl) rfl rfl (Rd.loadB 0 rfl rfl rfl (by kernel_rfl) ap_nil) ?_
  refine SWl.rdg rfl rfl (rfl) rfl rfl (Rd.nei rfl rfl) ?_
  refine SWl.rd rfl (Rd.pickN rfl (rfl) rfl) ?_
  refine SWl.nil ?_
  refine SN.then ?_
  refine SW.condF rfl (by decide) ?_
  refine SW.skip ?_
  refine SN.then ?_
  refine SW.seq ?_
  refine SW.region ?_
  refine SWl.rd rfl (Rd.loadB 3 rfl rfl rfl (by kernel_rfl) ap_nil) ?_
  refine SWl.rd rfl (Rd.nilCheck rfl) ?_
  refine SWl.rd rfl (Rd.fieldAddr (n := 3) rfl (by kernel_rfl)) ?_
  refine SWl.rd rfl (Rd.loadB 0 rfl rfl rfl (by kernel_rfl) ap_nil) ?_
  refine SWl.ef (S := []) (Ef.alloc (zs := [.int .i64 0]) (by kernel_rfl) rfl) ?_
  rintro _ ⟨g4, rfl⟩
  refine SWl.ef (S := [_]) (Ef.storeV 4 rfl rfl rfl (by kernel_rfl) rfl (List.mem_singleton.2 rfl)) ?_
  rintro _ rfl
  refine SWl.nil ?_
  refine SN.then ?_
  refine SW.seq ?_
  refine SW.region ?_
  refine SWl.rd rfl (Rd.makeFunc [.pointer (some ⟨g4, 0, none⟩), .pointer (some ⟨g2, 0, none⟩)] rfl) ?_
  refine SWl.defer (cap := [.pointer (some ⟨g4, 0, none⟩), .pointer (some ⟨g2, 0, none⟩)]) rfl ?_
  refine SWl.nil ?_
  refine SN.then ?_
  refine SW.region ?_
  refine SWl.rd rfl (Rd.move rfl) ?_
  refine SWl.ef (Ef.callVR (cap := [.pointer (some ⟨gp, 0, none⟩), .pointer (some ⟨gn, 0, none⟩)]) [0, 1, 2] (con_clUint gr gp gn b k hb n m h) rfl rfl ⟨Le.refl _, Le.refl _, trivial⟩ (by decide) ⟨⟨_, rfl, LeAll.refl _⟩, ⟨⟨_, rfl, LeAll.refl _⟩, ⟨⟨_, rfl, LeAll.refl _⟩, trivial⟩⟩⟩ (fun _ h => h) rfl) ?_
  rintro _ ⟨⟨⟩, rfl⟩
  refine SWl.nil ?_
  refine SN.retL ?_
  refine RL.defer (cap := [.pointer (some ⟨g4, 0, none⟩), .pointer (some ⟨g2, 0, none⟩)]) [] (by simp) (con_vd_ret g4 g2) (by decide) trivial ?_
  refine RL.fin (()) [2, 3, 4] (Rs.le (Rs.none rfl) ?_) (by decide) ⟨⟨_, rfl, LeAll.refl _⟩, ⟨⟨_, rfl, LeAll.refl _⟩, ⟨⟨_, rfl, LeAll.refl _⟩, trivial⟩⟩⟩
  exact Le.refl _
set_option maxHeartbeats 4000000 in
set_option maxRecDepth 100000 in
theorem con_valueUint_bad (gr gp gn : Nat) (b : List UInt8) (k : Nat) (hb : b.length ≤ 1000000) (E : Int) (h : (rdg 9 true) (b.drop k) = .error E) : ConR Tryd.prog 89 [.c gr [iD 0, boolD true, bD b, iD ((k : Nat) : Int)], .c gp [isD (.pointer (some ⟨gr, 0, none⟩))], .c gn [iD 0]] [isD (.pointer (some ⟨gr, 0, none⟩)), isD (.func (.func 95) #[] #[.pointer (some ⟨gp, 0, none⟩), .pointer (some ⟨gn, 0, none⟩)])] (fun _ : Unit => [.c gr [iD E, boolD true, bD b, iD ((k : Nat) : Int)], .c gp [isD (.pointer (some ⟨gr, 0, none⟩))], .c gn [iD 0]]) (fun _ : Unit => isD (.tuple #[])) := by
  refine con_ofRD Tryd.func89 (by kernel_rfl) rfl (by kernel_rfl) fun base w0 => ?_
  refine SW.seq ?_
  refine SW.region ?_
  refine SWl.ef (S := []) (Ef.boxV rfl (fun _ _ _ h => one_cells (One.h _ _ _ h)) rfl) ?_
  rintro _ ⟨g2, rfl⟩
  refine SWl.nil ?_
  refine SN.then ?_
  refine SW.seq ?_
  refine SW.seq ?_
  refine SW.region ?_
  refine SWl.rd rfl (Rd.loadB 3 rfl rfl rfl (by kernel_rfl) ap_nil) ?_
  refine SWl.ef (S := []) (Ef.callN [0] (con_rvalid b k 0) rfl ⟨(sees_box 0 rfl (by decide) ⟨(sees_le (Le.refl _)), (sees_le (Le.refl _)), (sees_le (Le.refl _)), (sees_le (Le.refl _)), trivial⟩), trivial⟩ rfl) ?_
  rintro _ rfl
  refine SWl.rd rfl (Rd.not rfl) ?_
  refine SWl.rd rfl (Rd.move rfl) ?_
  refine SWl.rdg rfl rfl (rfl) rfl rfl (Rd.loadB 3 rfl rfl rfl (by kernel_rfl) ap_nil) ?_
  refine SWl.rdg rfl rfl (rfl) rfl rfl (Rd.nilCheck rfl) ?_
  refine SWl.rdg rfl rfl (rfl) rfl rfl (Rd.fieldAddr (n := 0) rfl (by kernel_rfl)) ?_
  refine SWl.rdg rfl rfl (rfl) rfl rfl (Rd.fieldAddr (n := 0) rfl (by kernel_rfl)) ?_
  refine SWl.rdg rfl rfl (rfl) rfl rfl (Rd.loadB 0 rfl rfl rfl (by kernel_rfl) ap_nil) ?_
  refine SWl.rdg rfl rfl (rfl) rfl rfl (Rd.nei rfl rfl) ?_
  refine SWl.rd rfl (Rd.pickN rfl (rfl) rfl) ?_
  refine SWl.nil ?_
  refine SN.then ?_
  refine SW.condF rfl (by decide) ?_
  refine SW.skip ?_
  refine SN.then ?_
  refine SW.seq ?_
  refine SW.region ?_
  refine SWl.rd rfl (Rd.loadB 3 rfl rfl rfl (by kernel_rfl) ap_nil) ?_
  refine SWl.rd rfl (Rd.nilCheck rfl) ?_
  refine SWl.rd rfl (Rd.fieldAddr (n := 3) rfl (by kernel_rfl)) ?_
  refine SWl.rd rfl (Rd.loadB 0 rfl rfl rfl (by kernel_rfl) ap_nil) ?_
  refine SWl.ef (S := []) (Ef.alloc (zs := [.int .i64 0]) (by kernel_rfl) rfl) ?_
  rintro _ ⟨g4, rfl⟩
  refine SWl.ef (S := [_]) (Ef.storeV 4 rfl rfl rfl (by kernel_rfl) rfl (List.mem_singleton.2 rfl)) ?_
  rintro _ rfl
  refine SWl.nil ?_
  refine SN.then ?_
  refine SW.seq ?_
  refine SW.region ?_
  refine SWl.rd rfl (Rd.makeFunc [.pointer (some ⟨g4, 0, none⟩), .pointer (some ⟨g2, 0, none⟩)] rfl) ?_
  refine SWl.defer (cap := [.pointer (some ⟨g4, 0, none⟩), .pointer (some ⟨g2, 0, none⟩)]) rfl ?_
  refine SWl.nil ?_
  refine SN.then ?_
  refine SW.region ?_
  refine SWl.rd rfl (Rd.move rfl) ?_
  refine SWl.callPRV (cap := [.pointer (some ⟨gp, 0, none⟩), .pointer (some ⟨gn, 0, none⟩)]) [0, 1, 2] (con_clUint_bad gr gp gn b k hb E h) rfl rfl ⟨Le.refl _, Le.refl _, trivial⟩ (by decide) ⟨⟨_, rfl, LeAll.refl _⟩, ⟨⟨_, rfl, LeAll.refl _⟩, ⟨⟨_, rfl, LeAll.refl _⟩, trivial⟩⟩⟩ ?_
  intro q
  repeat (first | refine SP.then ?_ | refine SP.block ?_)
  refine SP.retL ?_
  refine RL.defer (cap := [.pointer (some ⟨g4, 0, none⟩), .pointer (some ⟨g2, 0, none⟩)]) [1, 0, 2] (by simp) (con_vd_pan g4 g2 gr b k q E) (by decide) ⟨⟨_, rfl, LeAll.refl _⟩, ⟨_, rfl, LeAll.refl _⟩, ⟨_, rfl, LeAll.refl _⟩, trivial⟩ ?_
  refine RL.fin (()) [4, 0, 1] (Rs.le (Rs.none rfl) ?_) (by decide) ⟨⟨_, rfl, LeAll.refl _⟩, ⟨⟨_, rfl, LeAll.refl _⟩, ⟨⟨_, rfl, LeAll.refl _⟩, trivial⟩⟩⟩
  exact Le.refl _
set_option maxHeartbeats 4000000 in
set_option maxRecDepth 100000 in
theorem con_valueUint_skip (gr gp gn : Nat) (b : List UInt8) (k : Nat) (hb : b.length ≤ 1000000) (e : Int) (he : e ≠ 0) : ConR Tryd.prog 89 [.c gr [iD e, boolD true, bD b, iD ((k : Nat) : Int)], .c gp [isD (.pointer (some ⟨gr, 0, none⟩))], .c gn [iD 0]] [isD (.pointer (some ⟨gr, 0, none⟩)), isD (.func (.func 95) #[] #[.pointer (some ⟨gp, 0, none⟩), .pointer (some ⟨gn, 0, none⟩)])] (fun _ : Unit => [.c gr [iD e, boolD true, bD b, iD ((k : Nat) : Int)], .c gp [isD (.pointer (some ⟨gr, 0, none⟩))], .c gn [iD 0]]) (fun _ : Unit => isD (.tuple #[])) := by
  refine con_ofRD Tryd.func89 (by kernel_rfl) rfl (by kernel_rfl) fun base w0 => ?_
  refine SW.seq ?_
  refine SW.region ?_
  refine SWl.ef (S := []) (Ef.boxV rfl (fun _ _ _ h => one_cells (One.h _ _ _ h)) rfl) ?_
  rintro _ ⟨g2, rfl⟩
  refine SWl.nil ?_
  refine SN.then ?_
  refine SW.seq ?_
  refine SW.seq ?_
  refine SW.region ?_
  refine SWl.rd rfl (Rd.loadB 3 rfl rfl rfl (by kernel_rfl) ap_nil) ?_
  refine SWl.ef (S := []) (Ef.callN [0] (con_rvalid b k e) rfl ⟨(sees_box 0 rfl (by decide) ⟨(sees_le (Le.refl _)), (sees_le (Le.refl _)), (sees_le (Le.refl _)), (sees_le (Le.refl _)), trivial⟩), trivial⟩ rfl) ?_
  rintro _ rfl
  refine SWl.rd rfl (Rd.not rfl) ?_
  refine SWl.rd rfl (Rd.move rfl) ?_
  refine SWl.rdg rfl rfl (rfl) rfl rfl (Rd.loadB 3 rfl rfl rfl (by kernel_rfl) ap_nil) ?_
  refine SWl.rdg rfl rfl (rfl) rfl rfl (Rd.nilCheck rfl) ?_
  refine SWl.rdg rfl rfl (rfl) rfl rfl (Rd.fieldAddr (n := 0) rfl (by kernel_rfl)) ?_
  refine SWl.rdg rfl rfl (rfl) rfl rfl (Rd.fieldAddr (n := 0) rfl (by kernel_rfl)) ?_
  refine SWl.rdg rfl rfl (rfl) rfl rfl (Rd.loadB 0 rfl rfl rfl (by kernel_rfl) ap_nil) ?_
  refine SWl.rdg rfl rfl (rfl) rfl rfl (Rd.nei rfl rfl) ?_
  refine SWl.rd rfl (Rd.pickN rfl (rfl) rfl) ?_
  refine SWl.nil ?_
  refine SN.then ?_
  refine SW.condT rfl (by simp [he]) ?_
  refine SW.retL (fun _ _ h => h) ?_
  refine RL.fin (()) [0, 1, 2] (Rs.le (Rs.none rfl) ?_) (by decide) ⟨⟨_, rfl, LeAll.refl _⟩, ⟨⟨_, rfl, LeAll.refl _⟩, ⟨⟨_, rfl, LeAll.refl _⟩, trivial⟩⟩⟩
  exact Le.refl _
theorem con_valueUint (gr gp gn : Nat) (b : List UInt8) (hb : b.length ≤ 1000000) (s : Int × Nat) (r : RT) (hs : RRel b s r) : ConR Tryd.prog 89 [.c gr [iD s.1, boolD true, bD b, iD ((s.2 : Nat) : Int)], .c gp [isD (.pointer (some ⟨gr, 0, none⟩))], .c gn [iD 0]] [isD (.pointer (some ⟨gr, 0, none⟩)), isD (.func (.func 95) #[] #[.pointer (some ⟨gp, 0, none⟩), .pointer (some ⟨gn, 0, none⟩)])] (fun t : RdS b (stU r).2 => [.c gr [iD t.1.1, boolD true, bD b, iD ((t.1.2 : Nat) : Int)], .c gp [isD (.pointer (some ⟨gr, 0, none⟩))], .c gn [iD (stU r).1]]) (fun _ => isD (.tuple #[])) := by
  obtain ⟨e, k⟩ := s
  obtain ⟨p, e'⟩ := r
  obtain ⟨h1, h2, h3⟩ := hs
  dsimp only at h1 h2 h3
  subst h1
  by_cases he : e = 0
  · subst he
    obtain rfl := h3 rfl
    rcases hr : (rdg 9 true) (b.drop k) with E | ⟨n, m⟩
    · rw [show stU ⟨b.drop k, 0⟩ = _ from stG_bad rfl hr]
      exact (con_valueUint_bad gr gp gn b k hb E hr).map (fun _ => ⟨(E, k), RRel.bad h2 (rdg_ne hr)⟩) (fun _ => rfl) (fun _ => rfl)
    · rw [show stU ⟨b.drop k, 0⟩ = _ from stG_ok rfl hr]
      exact (con_valueUint_ok gr gp gn b k hb n m hr).map (fun _ => ⟨(0, k + m), RRel.good (rdg_in h2 hr)⟩) (fun _ => rfl) (fun _ => rfl)
  · rw [show stU ⟨p, e⟩ = _ from stG_skip he]
    exact (con_valueUint_skip gr gp gn b k hb e he).map (fun _ => ⟨(e, k), rfl, h2, h3⟩) (fun _ => rfl) (fun _ => rfl)
set_option maxHeartbeats 4000000 in
set_option maxRecDepth 100000 in
theorem con_rUint (gr : Nat) (b : List UInt8) (hb : b.length ≤ 1000000) (s : Int × Nat) (r : RT) (hs : RRel b s r) : ConR Tryd.prog 50 [.c gr [iD s.1, boolD true, bD b, iD ((s.2 : Nat) : Int)]] [isD (.pointer (some ⟨gr, 0, none⟩))] (fun t : RdS b (stU r).2 => [.c gr [iD t.1.1, boolD true, bD b, iD ((t.1.2 : Nat) : Int)]]) (fun t : RdS b (stU r).2 => iD (stU r).1) := by
  refine con_ofR Tryd.func50 (by kernel_rfl) rfl (by kernel_rfl) fun base w0 => ?_
  refine SW.seq ?_
  refine SW.region ?_
  refine SWl.ef (S := []) (Ef.boxV rfl (fun _ _ _ h => one_cells (One.h _ _ _ h)) rfl) ?_
  rintro _ ⟨g1, rfl⟩
  refine SWl.rd rfl (Rd.assign rfl) ?_
  refine SWl.nil ?_
  refine SN.then ?_
  refine SW.seq ?_
  refine SW.region ?_
  refine SWl.ef (S := []) (Ef.alloc (zs := [.int .i64 0]) (by kernel_rfl) rfl) ?_
  rintro _ ⟨g3, rfl⟩
  refine SWl.ef (S := [_]) (Ef.storeV 2 rfl rfl rfl (by kernel_rfl) rfl (List.mem_singleton.2 rfl)) ?_
  rintro _ rfl
  refine SWl.nil ?_
  refine SN.then ?_
  refine SW.seq ?_
  refine SW.region ?_
  refine SWl.rd rfl (Rd.loadB 1 rfl rfl rfl (by kernel_rfl) ap_nil) ?_
  refine SWl.rd rfl (Rd.makeFunc [.pointer (some ⟨g1, 0, none⟩), .pointer (some ⟨g3, 0, none⟩)] rfl) ?_
  refine SWl.ef (Ef.callR [0, 1, 2] (con_valueUint gr g1 g3 b hb s r hs) rfl ⟨Le.refl _, Le.refl _, trivial⟩ (by decide) ⟨⟨_, rfl, LeAll.refl _⟩, ⟨⟨_, rfl, LeAll.refl _⟩, ⟨⟨_, rfl, LeAll.refl _⟩, trivial⟩⟩⟩ (fun _ h => h) rfl) ?_
  rintro _ ⟨t8, rfl⟩
  refine SWl.nil ?_
  refine SN.then ?_
  refine SW.seq ?_
  refine SW.region ?_
  refine SWl.rd rfl (Rd.loadB 2 rfl rfl rfl (by kernel_rfl) ap_nil) ?_
  refine SWl.rd rfl (Rd.assign rfl) ?_
  refine SWl.nil ?_
  refine SN.then ?_
  refine SW.retR (fn := Tryd.f50) (t8) [0] (fun _ _ h => h) (Rs.one rfl (ResV.tmp rfl)) (by decide) ⟨⟨_, rfl, LeAll.refl _⟩, trivial⟩
set_option maxHeartbeats 4000000 in
set_option maxRecDepth 100000 in
theorem con_valueString_ok (gr gp gl gn : Nat) (b : List UInt8) (k : Nat) (hb : b.length ≤ 1000000) (lim : Int) (hl : 0 ≤ lim) (q : List UInt8) (m : Nat) (h : (rdP lim) (b.drop k) = .ok (q, m)) : ConR Tryd.prog 89 [.c gr [iD 0, boolD true, bD b, iD ((k : Nat) : Int)], .c gp [isD (.pointer (some ⟨gr, 0, none⟩))], .c gl [iD lim], .c gn [strD []]] [isD (.pointer (some ⟨gr, 0, none⟩)), isD (.func (.func 93) #[] #[.pointer (some ⟨gp, 0, none⟩), .pointer (some ⟨gl, 0, none⟩), .pointer (some ⟨gn, 0, none⟩)])] (fun _ : Unit => [.c gr [iD 0, boolD true, bD b, iD ((k + m : Nat) : Int)], .c gp [isD (.pointer (some ⟨gr, 0, none⟩))], .c gl [iD lim], .c gn [strD q]]) (fun _ : Unit => isD (.tuple #[])) := by
  refine con_ofRD Tryd.func89 (by kernel_rfl) rfl (by kernel_rfl) fun base w0 => ?_
  refine SW.seq ?_
  refine SW.region ?_
  refine SWl.ef (S := []) (Ef.boxV rfl (fun _ _ _ h => one_cells (One.h _ _ _ h)) rfl) ?_
  rintro _ ⟨g2, rfl⟩
  refine SWl.nil ?_
  refine SN.then ?_
  refine SW.seq ?_
  refine SW.seq ?_
  refine SW.region ?_
  refine SWl.rd rfl (Rd.loadB 4 rfl rfl rfl (by kernel_rfl) ap_nil) ?_
  refine SWl.ef (S := []) (Ef.callN [0] (con_rvalid b k 0) rfl ⟨(sees_box 0 rfl (by decide) ⟨(sees_le (Le.refl _)), (sees_le (Le.refl _)), (sees_le (Le.refl _)), (sees_le (Le.refl _)), trivial⟩), trivial⟩ rfl) ?_
  rintro _ rfl
  refine SWl.rd rfl (Rd.not rfl) ?_
  refine SWl.rd rfl (Rd.move rfl) ?_
  refine SWl.rdg rfl rfl (rfl) rfl rfl (Rd.loadB 4 rfl rfl rfl (by kernel_rfl) ap_nil) ?_
  refine SWl.rdg rfl rfl (rfl) rfl rfl (Rd.nilCheck rfl) ?_
  refine SWl.rdg rfl rfl (rfl) rfl rfl (Rd.fieldAddr (n := 0) rfl (by kernel_rfl)) ?_
  refine SWl.rdg rfl rfl (rfl) rfl rfl (Rd.fieldAddr (n := 0) rfl (by kernel_rfl)) ?_
  refine SWl.rdg rfl rfl (rfl) rfl rfl (Rd.loadB 0 rfl rfl rfl (by kernel_rfl) ap_nil) ?_
  refine SWl.rdg rfl rfl (rfl) rfl rfl (Rd.nei rfl rfl) ?_
  refine SWl.rd rfl (Rd.pickN rfl (rfl) rfl) ?_
  refine SWl.nil ?_
  refine SN.then ?_
  refine SW.condF rfl (by decide) ?_
  refine SW.skip ?_
  refine SN.then ?_
  refine SW.seq ?_
  refine SW.region ?_
  refine SWl.rd rfl (Rd.loadB 4 rfl rfl rfl (by kernel_rfl) ap_nil) ?_
  refine SWl.rd rfl (Rd.nilCheck rfl) ?_
  refine SWl.rd rfl (Rd.fieldAddr (n := 3) rfl (by kernel_rfl)) ?_
  refine SWl.rd rfl (Rd.loadB 0 rfl rfl rfl (by kernel_rfl) ap_nil) ?_
  refine SWl.ef (S := []) (Ef.alloc (zs := [.int .i64 0]) (by kernel_rfl) rfl) ?_
  rintro _ ⟨g4, rfl⟩
  refine SWl.ef (S := [_]) (Ef.storeV 5 rfl rfl rfl (by kernel_rfl) rfl (List.mem_singleton.2 rfl)) ?_
  rintro _ rfl
  refine SWl.nil ?_
  refine SN.then ?_
  refine SW.seq ?_
  refine SW.region ?_
  refine SWl.rd rfl (Rd.makeFunc [.pointer (some ⟨g4, 0, none⟩), .pointer (some ⟨g2, 0, none⟩)] rfl) ?_
  refine SWl.defer (cap := [.pointer (some ⟨g4, 0, none⟩), .pointer (some ⟨g2, 0, none⟩)]) rfl ?_
  refine SWl.nil ?_
  refine SN.then ?_
  refine SW.region ?_
  refine SWl.rd rfl (Rd.move rfl) ?_
  refine SWl.ef (Ef.callVR (cap := [.pointer (some ⟨gp, 0, none⟩), .pointer (some ⟨gl, 0, none⟩), .pointer (some ⟨gn, 0, none⟩)]) [0, 1, 2, 3] (con_clString gr gp gl gn b k hb lim hl q m h) rfl rfl ⟨Le.refl _, Le.refl _, Le.refl _, trivial⟩ (by decide) ⟨⟨_, rfl, LeAll.refl _⟩, ⟨⟨_, rfl, LeAll.refl _⟩, ⟨⟨_, rfl, LeAll.refl _⟩, ⟨⟨_, rfl, LeAll.refl _⟩, trivial⟩⟩⟩⟩ (fun _ h => h) rfl) ?_
  rintro _ ⟨⟨⟩, rfl⟩
  refine SWl.nil ?_
  refine SN.retL ?_
  refine RL.defer (cap := [.pointer (some ⟨g4, 0, none⟩), .pointer (some ⟨g2, 0, none⟩)]) [] (by simp) (con_vd_ret g4 g2) (by decide) trivial ?_
  refine RL.fin (()) [2, 3, 4, 5] (Rs.le (Rs.none rfl) ?_) (by decide) ⟨⟨_, rfl, LeAll.refl _⟩, ⟨⟨_, rfl, LeAll.refl _⟩, ⟨⟨_, rfl, LeAll.refl _⟩, ⟨⟨_, rfl, LeAll.refl _⟩, trivial⟩⟩⟩⟩
  exact Le.refl _
set_option maxHeartbeats 4000000 in
set_option maxRecDepth 100000 in
theorem con_valueString_bad (gr gp gl gn : Nat) (b : List UInt8) (k : Nat) (hb : b.length ≤ 1000000) (lim : Int) (hl : 0 ≤ lim) (E : Int) (h : (rdP lim) (b.drop k) = .error E) : ConR Tryd.prog 89 [.c gr [iD 0, boolD true, bD b, iD ((k : Nat) : Int)], .c gp [isD (.pointer (some ⟨gr, 0, none⟩))], .c gl [iD lim], .c gn [strD []]] [isD (.pointer (some ⟨gr, 0, none⟩)), isD (.func (.func 93) #[] #[.pointer (some ⟨gp, 0, none⟩), .pointer (some ⟨gl, 0, none⟩), .pointer (some ⟨gn, 0, none⟩)])] (fun _ : Unit => [.c gr [iD E, boolD true, bD b, iD ((k : Nat) : Int)], .c gp [isD (.pointer (some ⟨gr, 0, none⟩))], .c gl [iD lim], .c gn [strD []]]) (fun _ : Unit => isD (.tuple #[])) := by
  refine con_ofRD Tryd.func89 (by kernel_rfl) rfl (by kernel_rfl) fun base w0 => ?_
  refine SW.seq ?_
  refine SW.region ?_
  refine SWl.ef (S := []) (Ef.boxV rfl (fun _ _ _ h => one_cells (One.h _ _ _ h)) rfl) ?_
  rintro _ ⟨g2, rfl⟩
  refine SWl.nil ?_
  refine SN.then ?_
  refine SW.seq ?_
  refine SW.seq ?_
  refine SW.region ?_
  refine SWl.rd rfl (Rd.loadB 4 rfl rfl rfl (by kernel_rfl) ap_nil) ?_
  refine SWl.ef (S := []) (Ef.callN [0] (con_rvalid b k 0) rfl ⟨(sees_box 0 rfl (by decide) ⟨(sees_le (Le.refl _)), (sees_le (Le.refl _)), (sees_le (Le.refl _)), (sees_le (Le.refl _)), trivial⟩), trivial⟩ rfl) ?_
  rintro _ rfl
  refine SWl.rd rfl (Rd.not rfl) ?_
  refine SWl.rd rfl (Rd.move rfl) ?_
  refine SWl.rdg rfl rfl (rfl) rfl rfl (Rd.loadB 4 rfl rfl rfl (by kernel_rfl) ap_nil) ?_
  refine SWl.rdg rfl rfl (rfl) rfl rfl (Rd.nilCheck rfl) ?_
  refine SWl.rdg rfl rfl (rfl) rfl rfl (Rd.fieldAddr (n := 0) rfl (by kernel_rfl)) ?_
  refine SWl.rdg rfl rfl (rfl) rfl rfl (Rd.fieldAddr (n := 0) rfl (by kernel_rfl)) ?_
  refine SWl.rdg rfl rfl (rfl) rfl rfl (Rd.loadB 0 rfl rfl rfl (by kernel_rfl) ap_nil) ?_
  refine SWl.rdg rfl rfl (rfl) rfl rfl (Rd.nei rfl rfl) ?_
  refine SWl.rd rfl (Rd.pickN rfl (rfl) rfl) ?_
  refine SWl.nil ?_
  refine SN.then ?_
  refine SW.condF rfl (by decide) ?_
  refine SW.skip ?_
  refine SN.then ?_
  refine SW.seq ?_
  refine SW.region ?_
  refine SWl.rd rfl (Rd.loadB 4 rfl rfl rfl (by kernel_rfl) ap_nil) ?_
  refine SWl.rd rfl (Rd.nilCheck rfl) ?_
  refine SWl.rd rfl (Rd.fieldAddr (n := 3) rfl (by kernel_rfl)) ?_
  refine SWl.rd rfl (Rd.loadB 0 rfl rfl rfl (by kernel_rfl) ap_nil) ?_
  refine SWl.ef (S := []) (Ef.alloc (zs := [.int .i64 0]) (by kernel_rfl) rfl) ?_
  rintro _ ⟨g4, rfl⟩
  refine SWl.ef (S := [_]) (Ef.storeV 5 rfl rfl rfl (by kernel_rfl) rfl (List.mem_singleton.2 rfl)) ?_
  rintro _ rfl
  refine SWl.nil ?_
  refine SN.then ?_
  refine SW.seq ?_
  refine SW.region ?_
  refine SWl.rd rfl (Rd.makeFunc [.pointer (some ⟨g4, 0, none⟩), .pointer (some ⟨g2, 0, none⟩)] rfl) ?_
  refine SWl.defer (cap := [.pointer (some ⟨g4, 0, none⟩), .pointer (some ⟨g2, 0, none⟩)]) rfl ?_
  refine SWl.nil ?_
  refine SN.then ?_
  refine SW.region ?_
  refine SWl.rd rfl (Rd.move rfl) ?_
  refine SWl.callPRV (cap := [.pointer (some ⟨gp, 0, none⟩), .pointer (some ⟨gl, 0, none⟩), .pointer (some ⟨gn, 0, none⟩)]) [0, 1, 2, 3] (con_clString_bad gr gp gl gn b k hb lim hl E h) rfl rfl ⟨Le.refl _, Le.refl _, Le.refl _, trivial⟩ (by decide) ⟨⟨_, rfl, LeAll.refl _⟩, ⟨⟨_, rfl, LeAll.refl _⟩, ⟨⟨_, rfl, LeAll.refl _⟩, ⟨⟨_, rfl, LeAll.refl _⟩, trivial⟩⟩⟩⟩ ?_
  intro q
  repeat (first | refine SP.then ?_ | refine SP.block ?_)
  refine SP.retL ?_
  refine RL.defer (cap := [.pointer (some ⟨g4, 0, none⟩), .pointer (some ⟨g2, 0, none⟩)]) [1, 0, 2] (by simp) (con_vd_pan g4 g2 gr b k q E) (by decide) ⟨⟨_, rfl, LeAll.refl _⟩, ⟨_, rfl, LeAll.refl _⟩, ⟨_, rfl, LeAll.refl _⟩, trivial⟩ ?_
  refine RL.fin (()) [5, 0, 1, 2] (Rs.le (Rs.none rfl) ?_) (by decide) ⟨⟨_, rfl, LeAll.refl _⟩, ⟨⟨_, rfl, LeAll.refl _⟩, ⟨⟨_, rfl, LeAll.refl _⟩, ⟨⟨_, rfl, LeAll.refl _⟩, trivial⟩⟩⟩⟩
  exact Le.refl _
set_option maxHeartbeats 4000000 in
set_option maxRecDepth 100000 in
theorem con_valueString_skip (gr gp gl gn : Nat) (b : List UInt8) (k : Nat) (hb : b.length ≤ 1000000) (lim : Int) (hl : 0 ≤ lim) (e : Int) (he : e ≠ 0) : ConR Tryd.prog 89 [.c gr [iD e, boolD true, bD b, iD ((k : Nat) : Int)], .c gp [isD (.pointer (some ⟨gr, 0, none⟩))], .c gl [iD lim], .c gn [strD []]] [isD (.pointer (some ⟨gr, 0, none⟩)), isD (.func (.func 93) #[] #[.pointer (some ⟨gp, 0, none⟩), .pointer (some ⟨gl, 0, none⟩), .pointer (some ⟨gn, 0, none⟩)])] (fun _ : Unit => [.c gr [iD e, boolD true, bD b, iD ((k : Nat) : Int)], .c gp [isD (.pointer (some ⟨gr, 0, none⟩))], .c gl [iD lim], .c gn [strD []]]) (fun _ : Unit => isD (.tuple #[])) := by
  refine con_ofRD Tryd.func89 (by kernel_rfl) rfl (by kernel_rfl) fun base w0 => ?_
  refine SW.seq ?_
  refine SW.region ?_
  refine SWl.ef (S := []) (Ef.boxV rfl (fun _ _ _ h => one_cells (One.h _ _ _ h)) rfl) ?_
  rintro _ ⟨g2, rfl⟩
  refine SWl.nil ?_
  refine SN.then ?_
  refine SW.seq ?_
  refine SW.seq ?_
  refine SW.region ?_
  refine SWl.rd rfl (Rd.loadB 4 rfl rfl rfl (by kernel_rfl) ap_nil) ?_
  refine SWl.ef (S := []) (Ef.callN [0] (con_rvalid b k e) rfl ⟨(sees_box 0 rfl (by decide) ⟨(sees_le (Le.refl _)), (sees_le (Le.refl _)), (sees_le (Le.refl _)), (sees_le (Le.refl _)), trivial⟩), trivial⟩ rfl) ?_
  rintro _ rfl
  refine SWl.rd rfl (Rd.not rfl) ?_
  refine SWl.rd rfl (Rd.move rfl) ?_
  refine SWl.rdg rfl rfl (rfl) rfl rfl (Rd.loadB 4 rfl rfl rfl (by kernel_rfl) ap_nil) ?_
  refine SWl.rdg rfl rfl (rfl) rfl rfl (Rd.nilCheck rfl) ?_
  refine SWl.rdg rfl rfl (rfl) rfl rfl (Rd.fieldAddr (n := 0) rfl (by kernel_rfl)) ?_
  refine SWl.rdg rfl rfl (rfl) rfl rfl (Rd.fieldAddr (n := 0) rfl (by kernel_rfl)) ?_
  refine SWl.rdg rfl rfl (rfl) rfl rfl (Rd.loadB 0 rfl rfl rfl (by kernel_rfl) ap_nil) ?_
  refine SWl.rdg rfl rfl (rfl) rfl rfl (Rd.nei rfl rfl) ?_
  refine SWl.rd rfl (Rd.pickN rfl (rfl) rfl) ?_
  refine SWl.nil ?_
  refine SN.then ?_
  refine SW.condT rfl (by simp [he]) ?_
  refine SW.retL (fun _ _ h => h) ?_
  refine RL.fin (()) [0, 1, 2, 3] (Rs.le (Rs.none rfl) ?_) (by decide) ⟨⟨_, rfl, LeAll.refl _⟩, ⟨⟨_, rfl, LeAll.refl _⟩, ⟨⟨_, rfl, LeAll.refl _⟩, ⟨⟨_, rfl, LeAll.refl _⟩, trivial⟩⟩⟩⟩
  exact Le.refl _
theorem con_valueString (gr gp gl gn : Nat) (b : List UInt8) (hb : b.length ≤ 1000000) (lim : Int) (hl : 0 ≤ lim) (s : Int × Nat) (r : RT) (hs : RRel b s r) : ConR Tryd.prog 89 [.c gr [iD s.1, boolD true, bD b, iD ((s.2 : Nat) : Int)], .c gp [isD (.pointer (some ⟨gr, 0, none⟩))], .c gl [iD lim], .c gn [strD []]] [isD (.pointer (some ⟨gr, 0, none⟩)), isD (.func (.func 93) #[] #[.pointer (some ⟨gp, 0, none⟩), .pointer (some ⟨gl, 0, none⟩), .pointer (some ⟨gn, 0, none⟩)])] (fun t : RdS b (stP lim r).2 => [.c gr [iD t.1.1, boolD true, bD b, iD ((t.1.2 : Nat) : Int)], .c gp [isD (.pointer (some ⟨gr, 0, none⟩))], .c gl [iD lim], .c gn [strD (stP lim r).1]]) (fun _ => isD (.tuple #[])) := by
  obtain ⟨e, k⟩ := s
  obtain ⟨p, e'⟩ := r
  obtain ⟨h1, h2, h3⟩ := hs
  dsimp only at h1 h2 h3
  subst h1
  by_cases he : e = 0
  · subst he
    obtain rfl := h3 rfl
    rcases hr : (rdP lim) (b.drop k) with E | ⟨n, m⟩
    · rw [show stP lim ⟨b.drop k, 0⟩ = _ from stG_bad rfl hr]
      exact (con_valueString_bad gr gp gl gn b k hb lim hl E hr).map (fun _ => ⟨(E, k), RRel.bad h2 (rdP_ne hr)⟩) (fun _ => rfl) (fun _ => rfl)
    · rw [show stP lim ⟨b.drop k, 0⟩ = _ from stG_ok rfl hr]
      exact (con_valueString_ok gr gp gl gn b k hb lim hl n m hr).map (fun _ => ⟨(0, k + m), RRel.good (rdP_in h2 hr)⟩) (fun _ => rfl) (fun _ => rfl)
  · rw [show stP lim ⟨p, e⟩ = _ from stG_skip he]
    exact (con_valueString_skip gr gp gl gn b k hb lim hl e he).map (fun _ => ⟨(e, k), rfl, h2, h3⟩) (fun _ => rfl) (fun _ => rfl)
set_option maxHeartbeats 4000000 in
set_option maxRecDepth 100000 in
theorem con_rString (gr : Nat) (b : List UInt8) (hb : b.length ≤ 1000000) (lim : Int) (hl : 0 ≤ lim) (s : Int × Nat) (r : RT) (hs : RRel b s r) : ConR Tryd.prog 49 [.c gr [iD s.1, boolD true, bD b, iD ((s.2 : Nat) : Int)]] [isD (.pointer (some ⟨gr, 0, none⟩)), iD lim] (fun t : RdS b (stP lim r).2 => [.c gr [iD t.1.1, boolD true, bD b, iD ((t.1.2 : Nat) : Int)]]) (fun t : RdS b (stP lim r).2 => strD (stP lim r).1) := by
  refine con_ofR Tryd.func49 (by kernel_rfl) rfl (by kernel_rfl) fun base w0 => ?_
  refine SW.seq ?_
  refine SW.region ?_
  refine SWl.ef (S := []) (Ef.boxV rfl (fun _ _ _ h => one_cells (One.h _ _ _ h)) rfl) ?_
  rintro _ ⟨g2, rfl⟩
  refine SWl.ef (S := []) (Ef.boxV rfl (fun _ _ _ h => one_cells (One.h _ _ _ h)) rfl) ?_
  rintro _ ⟨g3, rfl⟩
  refine SWl.rd rfl (Rd.assign rfl) ?_
  refine SWl.nil ?_
  refine SN.then ?_
  refine SW.seq ?_
  refine SW.region ?_
  refine SWl.ef (S := []) (Ef.alloc (zs := [.string ⟨#[]⟩]) (by kernel_rfl) rfl) ?_
  rintro _ ⟨g5, rfl⟩
  refine SWl.ef (S := [_]) (Ef.storeV 3 rfl rfl rfl (by kernel_rfl) rfl (List.mem_singleton.2 rfl)) ?_
  rintro _ rfl
  refine SWl.nil ?_
  refine SN.then ?_
  refine SW.seq ?_
  refine SW.region ?_
  refine SWl.rd rfl (Rd.loadB 1 rfl rfl rfl (by kernel_rfl) ap_nil) ?_
  refine SWl.rd rfl (Rd.makeFunc [.pointer (some ⟨g2, 0, none⟩), .pointer (some ⟨g3, 0, none⟩), .pointer (some ⟨g5, 0, none⟩)] rfl) ?_
  refine SWl.ef (Ef.callR [0, 1, 2, 3] (con_valueString gr g2 g3 g5 b hb lim hl s r hs) rfl ⟨Le.refl _, Le.refl _, trivial⟩ (by decide) ⟨⟨_, rfl, LeAll.refl _⟩, ⟨⟨_, rfl, LeAll.refl _⟩, ⟨⟨_, rfl, LeAll.refl _⟩, ⟨⟨_, rfl, LeAll.refl _⟩, trivial⟩⟩⟩⟩ (fun _ h => h) rfl) ?_
  rintro _ ⟨t8, rfl⟩
  refine SWl.nil ?_
  refine SN.then ?_
  refine SW.seq ?_
  refine SW.region ?_
  refine SWl.rd rfl (Rd.loadB 3 rfl rfl rfl (by kernel_rfl) ap_nil) ?_
  refine SWl.rd rfl (Rd.assign rfl) ?_
  refine SWl.nil ?_
  refine SN.then ?_
  refine SW.retR (fn := Tryd.f49) (t8) [0] (fun _ _ h => h) (Rs.one rfl (ResV.tmp rfl)) (by decide) ⟨⟨_, rfl, LeAll.refl _⟩, trivial⟩
set_option maxHeartbeats 4000000 in
set_option maxRecDepth 100000 in
theorem con_valueBytes_ok (gr gp gl gn : Nat) (b : List UInt8) (k : Nat) (hb : b.length ≤ 1000000) (lim : Int) (hl : 0 ≤ lim) (q : List UInt8) (m : Nat) (h : (rdP lim) (b.drop k) = .ok (q, m)) : ConR Tryd.prog 89 [.c gr [iD 0, boolD true, bD b, iD ((k : Nat) : Int)], .c gp [isD (.pointer (some ⟨gr, 0, none⟩))], .c gl [iD lim], .c gn [isD (.slice none 0 0)]] [isD (.pointer (some ⟨gr, 0, none⟩)), isD (.func (.func 97) #[] #[.pointer (some ⟨gn, 0, none⟩), .pointer (some ⟨gp, 0, none⟩), .pointer (some ⟨gl, 0, none⟩)])] (fun t : Ust => [.c gr [iD 0, boolD true, bD b, iD ((k + m : Nat) : Int)], .c gp [isD (.pointer (some ⟨gr, 0, none⟩))], .c gl [iD lim], .c gn [isD (.slice t.A (q).length t.c)], .r t.F (vecT 5 1 encB t.A t.c (q))]) (fun t : Ust => isD (.tuple #[])) := by
  refine con_ofRD Tryd.func89 (by kernel_rfl) rfl (by kernel_rfl) fun base w0 => ?_
  refine SW.seq ?_
  refine SW.region ?_
  refine SWl.ef (S := []) (Ef.boxV rfl (fun _ _ _ h => one_cells (One.h _ _ _ h)) rfl) ?_
  rintro _ ⟨g2, rfl⟩
  refine SWl.nil ?_
  refine SN.then ?_
  refine SW.seq ?_
  refine SW.seq ?_
  refine SW.region ?_
  refine SWl.rd rfl (Rd.loadB 4 rfl rfl rfl (by kernel_rfl) ap_nil) ?_
  refine SWl.ef (S := []) (Ef.callN [0] (con_rvalid b k 0) rfl ⟨(sees_box 0 rfl (by decide) ⟨(sees_le (Le.refl _)), (sees_le (Le.refl _)), (sees_le (Le.refl _)), (sees_le (Le.refl _)), trivial⟩), trivial⟩ rfl) ?_
  rintro _ rfl
  refine SWl.rd rfl (Rd.not rfl) ?_
  refine SWl.rd rfl (Rd.move rfl) ?_
  refine SWl.rdg rfl rfl (rfl) rfl rfl (Rd.loadB 4 rfl rfl rfl (by kernel_rfl) ap_nil) ?_
  refine SWl.rdg rfl rfl (rfl) rfl rfl (Rd.nilCheck rfl) ?_
  refine SWl.rdg rfl rfl (rfl) rfl rfl (Rd.fieldAddr (n := 0) rfl (by kernel_rfl)) ?_
  refine SWl.rdg rfl rfl (rfl) rfl rfl (Rd.fieldAddr (n := 0) rfl (by kernel_rfl)) ?_
  refine SWl.rdg rfl rfl (rfl) rfl rfl (Rd.loadB 0 rfl rfl rfl (by kernel_rfl) ap_nil) ?_
  refine SWl.rdg rfl rfl (rfl) rfl rfl (Rd.nei rfl rfl) ?_
  refine SWl.rd rfl (Rd.pickN rfl (rfl) rfl) ?_
  refine SWl.nil ?_
  refine SN.then ?_
  refine SW.condF rfl (by decide) ?_
  refine SW.skip ?_
  refine SN.then ?_
  refine SW.seq ?_
  refine SW.region ?_
  refine SWl.rd rfl (Rd.loadB 4 rfl rfl rfl (by kernel_rfl) ap_nil) ?_
  refine SWl.rd rfl (Rd.nilCheck rfl) ?_
  refine SWl.rd rfl (Rd.fieldAddr (n := 3) rfl (by kernel_rfl)) ?_
  refine SWl.rd rfl (Rd.loadB 0 rfl rfl rfl (by kernel_rfl) ap_nil) ?_
  refine SWl.ef (S := []) (Ef.alloc (zs := [.int .i64 0]) (by kernel_rfl) rfl) ?_
  rintro _ ⟨g4, rfl⟩
  refine SWl.ef (S := [_]) (Ef.storeV 5 rfl rfl rfl (by kernel_rfl) rfl (List.mem_singleton.2 rfl)) ?_
  rintro _ rfl
  refine SWl.nil ?_
  refine SN.then ?_
  refine SW.seq ?_
  refine SW.region ?_
  refine SWl.rd rfl (Rd.makeFunc [.pointer (some ⟨g4, 0, none⟩), .pointer (some ⟨g2, 0, none⟩)] rfl) ?_
  refine SWl.defer (cap := [.pointer (some ⟨g4, 0, none⟩), .pointer (some ⟨g2, 0, none⟩)]) rfl ?_
  refine SWl.nil ?_
  refine SN.then ?_
  refine SW.region ?_
  refine SWl.rd rfl (Rd.move rfl) ?_
  refine SWl.ef (Ef.callVR (cap := [.pointer (some ⟨gn, 0, none⟩), .pointer (some ⟨gp, 0, none⟩), .pointer (some ⟨gl, 0, none⟩)]) [0, 1, 2, 3] (con_clBytes gr gp gl gn b k hb lim hl q m h) rfl rfl ⟨Le.refl _, Le.refl _, Le.refl _, trivial⟩ (by decide) ⟨⟨_, rfl, LeAll.refl _⟩, ⟨⟨_, rfl, LeAll.refl _⟩, ⟨⟨_, rfl, LeAll.refl _⟩, ⟨⟨_, rfl, LeAll.refl _⟩, trivial⟩⟩⟩⟩ (fun _ h => h) rfl) ?_
  rintro _ ⟨t, rfl⟩
  refine SWl.nil ?_
  refine SN.retL ?_
  refine RL.defer (cap := [.pointer (some ⟨g4, 0, none⟩), .pointer (some ⟨g2, 0, none⟩)]) [] (by simp) (con_vd_ret g4 g2) (by decide) trivial ?_
  refine RL.fin (t) [2, 3, 4, 5, 6] (Rs.le (Rs.none rfl) ?_) (by decide) ⟨⟨_, rfl, LeAll.refl _⟩, ⟨⟨_, rfl, LeAll.refl _⟩, ⟨⟨_, rfl, LeAll.refl _⟩, ⟨⟨_, rfl, LeAll.refl _⟩, ⟨⟨_, rfl, LeR.refl _⟩, trivial⟩⟩⟩⟩⟩
  exact Le.refl _
set_option maxHeartbeats 4000000 in
set_option maxRecDepth 100000 in
theorem con_valueBytes_bad (gr gp gl gn : Nat) (b : List UInt8) (k : Nat) (hb : b.length ≤ 1000000) (lim : Int) (hl : 0 ≤ lim) (E : Int) (h : (rdP lim) (b.drop k) = .error E) : ConR Tryd.prog 89 [.c gr [iD 0, boolD true, bD b, iD ((k : Nat) : Int)], .c gp [isD (.pointer (some ⟨gr, 0, none⟩))], .c gl [iD lim], .c gn [isD (.slice none 0 0)]] [isD (.pointer (some ⟨gr, 0, none⟩)), isD (.func (.func 97) #[] #[.pointer (some ⟨gn, 0, none⟩), .pointer (some ⟨gp, 0, none⟩), .pointer (some ⟨gl, 0, none⟩)])] (fun _ : Unit => [.c gr [iD E, boolD true, bD b, iD ((k : Nat) : Int)], .c gp [isD (.pointer (some ⟨gr, 0, none⟩))], .c gl [iD lim], .c gn [isD (.slice none 0 0)], .r [] (vecT 5 1 encB none 0 [])]) (fun _ : Unit => isD (.tuple #[])) := by
  refine con_ofRD Tryd.func89 (by kernel_rfl) rfl (by kernel_rfl) fun base w0 => ?_
  refine SW.seq ?_
  refine SW.vecN 5 1 encB ?_
  refine SW.region ?_
  refine SWl.ef (S := []) (Ef.boxV rfl (fun _ _ _ h => one_cells (One.h _ _ _ h)) rfl) ?_
  rintro _ ⟨g2, rfl⟩
  refine SWl.nil ?_
  refine SN.then ?_
  refine SW.seq ?_
  refine SW.seq ?_
  refine SW.region ?_
  refine SWl.rd rfl (Rd.loadB 5 rfl rfl rfl (by kernel_rfl) ap_nil) ?_
  refine SWl.ef (S := []) (Ef.callN [0] (con_rvalid b k 0) rfl ⟨(sees_box 0 rfl (by decide) ⟨(sees_le (Le.refl _)), (sees_le (Le.refl _)), (sees_le (Le.refl _)), (sees_le (Le.refl _)), trivial⟩), trivial⟩ rfl) ?_
  rintro _ rfl
  refine SWl.rd rfl (Rd.not rfl) ?_
  refine SWl.rd rfl (Rd.move rfl) ?_
  refine SWl.rdg rfl rfl (rfl) rfl rfl (Rd.loadB 5 rfl rfl rfl (by kernel_rfl) ap_nil) ?_
  refine SWl.rdg rfl rfl (rfl) rfl rfl (Rd.nilCheck rfl) ?_
  refine SWl.rdg rfl rfl (rfl) rfl rfl (Rd.fieldAddr (n := 0) rfl (by kernel_rfl)) ?_
  refine SWl.rdg rfl rfl (rfl) rfl rfl (Rd.fieldAddr (n := 0) rfl (by kernel_rfl)) ?_
  refine SWl.rdg rfl rfl (rfl) rfl rfl (Rd.loadB 0 rfl rfl rfl (by kernel_rfl) ap_nil) ?_
  refine SWl.rdg rfl rfl (rfl) rfl rfl (Rd.nei rfl rfl) ?_
  refine SWl.rd rfl (Rd.pickN rfl (rfl) rfl) ?_
  refine SWl.nil ?_
  refine SN.then ?_
  refine SW.condF rfl (by decide) ?_
  refine SW.skip ?_
  refine SN.then ?_
  refine SW.seq ?_
  refine SW.region ?_
  refine SWl.rd rfl (Rd.loadB 5 rfl rfl rfl (by kernel_rfl) ap_nil) ?_
  refine SWl.rd rfl (Rd.nilCheck rfl) ?_
  refine SWl.rd rfl (Rd.fieldAddr (n := 3) rfl (by kernel_rfl)) ?_
  refine SWl.rd rfl (Rd.loadB 0 rfl rfl rfl (by kernel_rfl) ap_nil) ?_
  refine SWl.ef (S := []) (Ef.alloc (zs := [.int .i64 0]) (by kernel_rfl) rfl) ?_
  rintro _ ⟨g4, rfl⟩
  refine SWl.ef (S := [_]) (Ef.storeV 6 rfl rfl rfl (by kernel_rfl) rfl (List.mem_singleton.2 rfl)) ?_
  rintro _ rfl
  refine SWl.nil ?_
  refine SN.then ?_
  refine SW.seq ?_
  refine SW.region ?_
  refine SWl.rd rfl (Rd.makeFunc [.pointer (some ⟨g4, 0, none⟩), .pointer (some ⟨g2, 0, none⟩)] rfl) ?_
  refine SWl.defer (cap := [.pointer (some ⟨g4, 0, none⟩), .pointer (some ⟨g2, 0, none⟩)]) rfl ?_
  refine SWl.nil ?_
  refine SN.then ?_
  refine SW.region ?_
  refine SWl.rd rfl (Rd.move rfl) ?_
  refine SWl.callPRV (cap := [.pointer (some ⟨gn, 0, none⟩), .pointer (some ⟨gp, 0, none⟩), .pointer (some ⟨gl, 0, none⟩)]) [0, 1, 2, 3] (con_clBytes_bad gr gp gl gn b k hb lim hl E h) rfl rfl ⟨Le.refl _, Le.refl _, Le.refl _, trivial⟩ (by decide) ⟨⟨_, rfl, LeAll.refl _⟩, ⟨⟨_, rfl, LeAll.refl _⟩, ⟨⟨_, rfl, LeAll.refl _⟩, ⟨⟨_, rfl, LeAll.refl _⟩, trivial⟩⟩⟩⟩ ?_
  intro q
  repeat (first | refine SP.then ?_ | refine SP.block ?_)
  refine SP.retL ?_
  refine RL.defer (cap := [.pointer (some ⟨g4, 0, none⟩), .pointer (some ⟨g2, 0, none⟩)]) [2, 1, 3] (by simp) (con_vd_pan g4 g2 gr b k q E) (by decide) ⟨⟨_, rfl, LeAll.refl _⟩, ⟨_, rfl, LeAll.refl _⟩, ⟨_, rfl, LeAll.refl _⟩, trivial⟩ ?_
  refine RL.fin (()) [6, 1, 2, 3, 0] (Rs.le (Rs.none rfl) ?_) (by decide) ⟨⟨_, rfl, LeAll.refl _⟩, ⟨⟨_, rfl, LeAll.refl _⟩, ⟨⟨_, rfl, LeAll.refl _⟩, ⟨⟨_, rfl, LeAll.refl _⟩, ⟨⟨_, rfl, LeR.refl _⟩, trivial⟩⟩⟩⟩⟩
  exact Le.refl _
set_option maxHeartbeats 4000000 in
set_option maxRecDepth 100000 in
theorem con_valueBytes_skip (gr gp gl gn : Nat) (b : List UInt8) (k : Nat) (hb : b.length ≤ 1000000) (lim : Int) (hl : 0 ≤ lim) (e : Int) (he : e ≠ 0) : ConR Tryd.prog 89 [.c gr [iD e, boolD true, bD b, iD ((k : Nat) : Int)], .c gp [isD (.pointer (some ⟨gr, 0, none⟩))], .c gl [iD lim], .c gn [isD (.slice none 0 0)]] [isD (.pointer (some ⟨gr, 0, none⟩)), isD (.func (.func 97) #[] #[.pointer (some ⟨gn, 0, none⟩), .pointer (some ⟨gp, 0, none⟩), .pointer (some ⟨gl, 0, none⟩)])] (fun _ : Unit => [.c gr [iD e, boolD true, bD b, iD ((k : Nat) : Int)], .c gp [isD (.pointer (some ⟨gr, 0, none⟩))], .c gl [iD lim], .c gn [isD (.slice none 0 0)], .r [] (vecT 5 1 encB none 0 [])]) (fun _ : Unit => isD (.tuple #[])) := by
  refine con_ofRD Tryd.func89 (by kernel_rfl) rfl (by kernel_rfl) fun base w0 => ?_
  refine SW.seq ?_
  refine SW.vecN 5 1 encB ?_
  refine SW.region ?_
  refine SWl.ef (S := []) (Ef.boxV rfl (fun _ _ _ h => one_cells (One.h _ _ _ h)) rfl) ?_
  rintro _ ⟨g2, rfl⟩
  refine SWl.nil ?_
  refine SN.then ?_
  refine SW.seq ?_
  refine SW.seq ?_
  refine SW.region ?_
  refine SWl.rd rfl (Rd.loadB 5 rfl rfl rfl (by kernel_rfl) ap_nil) ?_
  refine SWl.ef (S := []) (Ef.callN [0] (con_rvalid b k e) rfl ⟨(sees_box 0 rfl (by decide) ⟨(sees_le (Le.refl _)), (sees_le (Le.refl _)), (sees_le (Le.refl _)), (sees_le (Le.refl _)), trivial⟩), trivial⟩ rfl) ?_
  rintro _ rfl
  refine SWl.rd rfl (Rd.not rfl) ?_
  refine SWl.rd rfl (Rd.move rfl) ?_
  refine SWl.rdg rfl rfl (rfl) rfl rfl (Rd.loadB 5 rfl rfl rfl (by kernel_rfl) ap_nil) ?_
  refine SWl.rdg rfl rfl (rfl) rfl rfl (Rd.nilCheck rfl) ?_
  refine SWl.rdg rfl rfl (rfl) rfl rfl (Rd.fieldAddr (n := 0) rfl (by kernel_rfl)) ?_
  refine SWl.rdg rfl rfl (rfl) rfl rfl (Rd.fieldAddr (n := 0) rfl (by kernel_rfl)) ?_
  refine SWl.rdg rfl rfl (rfl) rfl rfl (Rd.loadB 0 rfl rfl rfl (by kernel_rfl) ap_nil) ?_
  refine SWl.rdg rfl rfl (rfl) rfl rfl (Rd.nei rfl rfl) ?_
  refine SWl.rd rfl (Rd.pickN rfl (rfl) rfl) ?_
  refine SWl.nil ?_
  refine SN.then ?_
  refine SW.condT rfl (by simp [he]) ?_
  refine SW.retL (fun _ _ h => h) ?_
  refine RL.fin (()) [0, 1, 2, 3, 4] (Rs.le (Rs.none rfl) ?_) (by decide) ⟨⟨_, rfl, LeAll.refl _⟩, ⟨⟨_, rfl, LeAll.refl _⟩, ⟨⟨_, rfl, LeAll.refl _⟩, ⟨⟨_, rfl, LeAll.refl _⟩, ⟨⟨_, rfl, LeR.refl _⟩, trivial⟩⟩⟩⟩⟩
  exact Le.refl _
theorem con_valueBytes (gr gp gl gn : Nat) (b : List UInt8) (hb : b.length ≤ 1000000) (lim : Int) (hl : 0 ≤ lim) (s : Int × Nat) (r : RT) (hs : RRel b s r) : ConR Tryd.prog 89 [.c gr [iD s.1, boolD true, bD b, iD ((s.2 : Nat) : Int)], .c gp [isD (.pointer (some ⟨gr, 0, none⟩))], .c gl [iD lim], .c gn [isD (.slice none 0 0)]] [isD (.pointer (some ⟨gr, 0, none⟩)), isD (.func (.func 97) #[] #[.pointer (some ⟨gn, 0, none⟩), .pointer (some ⟨gp, 0, none⟩), .pointer (some ⟨gl, 0, none⟩)])] (fun t : RdS b (stP lim r).2 × Ust => [.c gr [iD t.1.1.1, boolD true, bD b, iD ((t.1.1.2 : Nat) : Int)], .c gp [isD (.pointer (some ⟨gr, 0, none⟩))], .c gl [iD lim], .c gn [isD (.slice t.2.A ((stP lim r).1).length t.2.c)], .r t.2.F (vecT 5 1 encB t.2.A t.2.c ((stP lim r).1))]) (fun _ => isD (.tuple #[])) := by
  obtain ⟨e, k⟩ := s
  obtain ⟨p, e'⟩ := r
  obtain ⟨h1, h2, h3⟩ := hs
  dsimp only at h1 h2 h3
  subst h1
  by_cases he : e = 0
  · subst he
    obtain rfl := h3 rfl
    rcases hr : (rdP lim) (b.drop k) with E | ⟨n, m⟩
    · rw [show stP lim ⟨b.drop k, 0⟩ = _ from stG_bad rfl hr]
      exact (con_valueBytes_bad gr gp gl gn b k hb lim hl E hr).map (fun u => (⟨(E, k), RRel.bad h2 (rdP_ne hr)⟩, ⟨none, 0, []⟩)) (fun _ => rfl) (fun _ => rfl)
    · rw [show stP lim ⟨b.drop k, 0⟩ = _ from stG_ok rfl hr]
      exact (con_valueBytes_ok gr gp gl gn b k hb lim hl n m hr).map (fun u => (⟨(0, k + m), RRel.good (rdP_in h2 hr)⟩, u)) (fun _ => rfl) (fun _ => rfl)
  · rw [show stP lim ⟨p, e⟩ = _ from stG_skip he]
    exact (con_valueBytes_skip gr gp gl gn b k hb lim hl e he).map (fun u => (⟨(e, k), rfl, h2, h3⟩, ⟨none, 0, []⟩)) (fun _ => rfl) (fun _ => rfl)
set_option maxHeartbeats 4000000 in
set_option maxRecDepth 100000 in
theorem con_rBytes (gr : Nat) (b : List UInt8) (hb : b.length ≤ 1000000) (lim : Int) (hl : 0 ≤ lim) (s : Int × Nat) (r : RT) (hs : RRel b s r) : ConR Tryd.prog 51 [.c gr [iD s.1, boolD true, bD b, iD ((s.2 : Nat) : Int)]] [isD (.pointer (some ⟨gr, 0, none⟩)), iD lim] (fun t : RdS b (stP lim r).2 => [.c gr [iD t.1.1, boolD true, bD b, iD ((t.1.2 : Nat) : Int)]]) (fun t : RdS b (stP lim r).2 => bD (stP lim r).1) := by
  refine con_ofR Tryd.func51 (by kernel_rfl) rfl (by kernel_rfl) fun base w0 => ?_
  refine SW.seq ?_
  refine SW.region ?_
  refine SWl.ef (S := []) (Ef.boxV rfl (fun _ _ _ h => one_cells (One.h _ _ _ h)) rfl) ?_
  rintro _ ⟨g2, rfl⟩
  refine SWl.ef (S := []) (Ef.boxV rfl (fun _ _ _ h => one_cells (One.h _ _ _ h)) rfl) ?_
  rintro _ ⟨g3, rfl⟩
  refine SWl.rd rfl (Rd.assign rfl) ?_
  refine SWl.nil ?_
  refine SN.then ?_
  refine SW.seq ?_
  refine SW.region ?_
  refine SWl.ef (S := []) (Ef.alloc (zs := [.slice none 0 0]) (by kernel_rfl) rfl) ?_
  rintro _ ⟨g5, rfl⟩
  refine SWl.nil ?_
  refine SN.then ?_
  refine SW.seq ?_
  refine SW.region ?_
  refine SWl.rd rfl (Rd.loadB 1 rfl rfl rfl (by kernel_rfl) ap_nil) ?_
  refine SWl.rd rfl (Rd.makeFunc [.pointer (some ⟨g5, 0, none⟩), .pointer (some ⟨g2, 0, none⟩), .pointer (some ⟨g3, 0, none⟩)] rfl) ?_
  refine SWl.ef (Ef.callR [0, 1, 2, 3] (con_valueBytes gr g2 g3 g5 b hb lim hl s r hs) rfl ⟨Le.refl _, Le.refl _, trivial⟩ (by decide) ⟨⟨_, rfl, LeAll.refl _⟩, ⟨⟨_, rfl, LeAll.refl _⟩, ⟨⟨_, rfl, LeAll.refl _⟩, ⟨⟨_, rfl, LeAll.refl _⟩, trivial⟩⟩⟩⟩ (fun _ h => h) rfl) ?_
  rintro _ ⟨t8, rfl⟩
  refine SWl.nil ?_
  refine SN.then ?_
  refine SW.seq ?_
  refine SW.region ?_
  refine SWl.rd rfl (Rd.loadB 3 rfl rfl rfl (by kernel_rfl) ap_nil) ?_
  refine SWl.rd rfl (Rd.assign rfl) ?_
  refine SWl.nil ?_
  refine SN.then ?_
  refine SW.freezeT 4 4 rfl rfl (le_ls_b _) ?_
  refine SW.retR (fn := Tryd.f51) (t8.1) [0] (fun _ _ h => h) (Rs.one rfl (ResV.tmp rfl)) (by decide) ⟨⟨_, rfl, LeAll.refl _⟩, trivial⟩
end Sx
end Go.Proofs.YtchbgfgboogniaaDoor
namespace Go.Proofs.YtchbgfgboogniaaDoor
open Go.RowKit
namespace Sx
theorem bldRd {b : List UInt8} : Bld Tryd.prog 142 [1, 2] [boolD true, bD b] [iD 0, boolD true, bD b, iD ((0 : Nat) : Int)] := fun L w vs hv => by
  obtain ⟨u, v, rfl, hu, h3⟩ := all2 hv
  cases hu
  have h3' := h3
  obtain ⟨A, cp, rfl, -⟩ := h3
  exact ⟨[.int .i64 0, .bool true, .slice A _ cp, .int .i64 0], ⟨rfl, rfl, h3', rfl, trivial⟩, fun w' => by kernel_rfl⟩
def endE (r : RT) : Int := if r.e = 0 ∧ r.p ≠ [] then 5 else r.e
theorem endE_long {b : List UInt8} {s : Int × Nat} {r : RT} (hs : RRel b s r) (h0 : s.1 = 0) (h : s.2 < b.length) : endE r = 5 := by
  obtain ⟨h1, h2, h3⟩ := hs
  have he : r.e = 0 := by rw [← h1]; exact h0
  unfold endE
  rw [if_pos ⟨he, fun hp => by rw [h3 he] at hp; have := congrArg List.length hp; rw [List.length_drop] at this; simp at this; omega⟩]
theorem endE_else {b : List UInt8} {s : Int × Nat} {r : RT} (hs : RRel b s r) (h : ¬ (s.1 = 0 ∧ s.2 < b.length)) : endE r = s.1 := by
  obtain ⟨h1, h2, h3⟩ := hs
  unfold endE
  rw [if_neg (fun hp => h ⟨by rw [h1]; exact hp.1, ?_⟩), h1]
  rcases Nat.lt_or_ge s.2 b.length with h' | h'
  · exact h'
  · exact absurd (by rw [h3 hp.1]; exact List.drop_eq_nil_of_le h') hp.2
set_option maxHeartbeats 4000000 in
set_option maxRecDepth 100000 in
theorem con_read (b : List UInt8) (hb : b.length ≤ 1000000) : ConR Tryd.prog 46 [] [bD b] (fun g : Nat => [.c g [iD 0, boolD true, bD b, iD ((0 : Nat) : Int)]]) (fun g : Nat => isD (.pointer (some ⟨g, 0, none⟩))) := by
  refine con_ofR Tryd.func46 (by kernel_rfl) rfl (by kernel_rfl) fun base w0 => ?_
  refine SW.seq ?_
  refine SW.region ?_
  refine SWl.rd rfl (Rd.assign rfl) ?_
  refine SWl.nil ?_
  refine SN.then ?_
  refine SW.seq ?_
  refine SW.vecN 5 1 encB ?_
  refine SW.region ?_
  refine SWl.rd rfl (Rd.move rfl) ?_
  refine SWl.ef (Ef.appT 0 1 1 rfl rfl (SrcT.b rfl) (by kernel_rfl) (by kernel_rfl) (by simp <;> omega) (by decide) (fun _ h => h) rfl) ?_
  rintro _ ⟨A4, F4, c4, rfl⟩
  refine SWl.freezeT 0 4 rfl rfl (le_ls_b _) ?_
  refine SWl.rd rfl (Rd.build rfl rfl bldRd) ?_
  refine SWl.ef (S := []) (Ef.boxA rfl rfl) ?_
  rintro _ ⟨g6, rfl⟩
  refine SWl.rd rfl (Rd.assign rfl) ?_
  refine SWl.nil ?_
  refine SN.then ?_
  refine SW.retR (fn := Tryd.f46) (g6) [0] (fun _ _ h => h) (Rs.one rfl (ResV.tmp rfl)) (by decide) ⟨⟨_, rfl, LeAll.refl _⟩, trivial⟩
set_option maxHeartbeats 4000000 in
set_option maxRecDepth 100000 in
theorem con_rErr (b : List UInt8) (s : Int × Nat) : ConN Tryd.prog 48 [paD [iD s.1, boolD true, bD b, iD ((s.2 : Nat) : Int)]] (iD s.1) := by
  refine con_ofN Tryd.func48 (by kernel_rfl) rfl (by kernel_rfl) fun base w0 => ?_
  refine SW.seq ?_
  refine SW.region ?_
  refine SWl.rd rfl (Rd.assign rfl) ?_
  refine SWl.nil ?_
  refine SN.then ?_
  refine SW.seq ?_
  refine SW.seq ?_
  refine SW.region ?_
  refine SWl.rd rfl (Rd.move rfl) ?_
  refine SWl.ef (S := []) (Ef.callN [] (con_rvalid b s.2 s.1) rfl ⟨(sees_le (Le.refl _)), trivial⟩ rfl) ?_
  rintro _ rfl
  refine SWl.rd rfl (Rd.not rfl) ?_
  refine SWl.nil ?_
  refine SN.then ?_
  refine SW.condF rfl (rfl) ?_
  refine SW.skip ?_
  refine SN.then ?_
  refine SW.seq ?_
  refine SW.region ?_
  refine SWl.rd rfl (Rd.move rfl) ?_
  refine SWl.rd rfl (Rd.nilCheckP rfl) ?_
  refine SWl.rd rfl (Rd.fieldR (n := 0) rfl (by kernel_rfl) (show 0 < 4 by decide)) ?_
  refine SWl.rd rfl (Rd.fieldR (n := 0) rfl (by kernel_rfl) (show 0 < 4 by decide)) ?_
  refine SWl.rd rfl (Rd.loadR rfl rfl (by kernel_rfl) (by simp)) ?_
  refine SWl.rd rfl (Rd.assign rfl) ?_
  refine SWl.nil ?_
  refine SN.then ?_
  refine SW.ret (fn := Tryd.f48) (fun _ _ h => h) (Rs.le (Rs.one rfl (ResV.tmp rfl)) ?_)
  exact le_nw_is
set_option maxHeartbeats 4000000 in
set_option maxRecDepth 100000 in
theorem con_rEnd (b : List UInt8) (s : Int × Nat) (r : RT) (hs : RRel b s r) : ConN Tryd.prog 52 [paD [iD s.1, boolD true, bD b, iD ((s.2 : Nat) : Int)]] (iD (endE r)) := by
  refine con_ofN Tryd.func52 (by kernel_rfl) rfl (by kernel_rfl) fun base w0 => ?_
  refine SW.seq ?_
  refine SW.region ?_
  refine SWl.rd rfl (Rd.assign rfl) ?_
  refine SWl.nil ?_
  refine SN.then ?_
  refine SW.seq ?_
  refine SW.seq ?_
  refine SW.region ?_
  refine SWl.rd rfl (Rd.move rfl) ?_
  refine SWl.ef (S := []) (Ef.callN [] (con_rvalid b s.2 s.1) rfl ⟨(sees_le (Le.refl _)), trivial⟩ rfl) ?_
  rintro _ rfl
  refine SWl.rd rfl (Rd.not rfl) ?_
  refine SWl.nil ?_
  refine SN.then ?_
  refine SW.condF rfl (rfl) ?_
  refine SW.skip ?_
  refine SN.then ?_
  refine SW.seq ?_
  refine SW.seq ?_
  refine SW.draw [] (.r 0 (.r 1 (.r 2 (.r 3 (.r 4 (.r 5 (.r 6 (.r 7 (.r 8 (.r 9 (.r 10 (.r 11 (.r 12 (.r 13 (.r 14 (.r 15 (.r 16 (.r 17 .fin)))))))))))))))))) (by kernel_rfl) (by kernel_rfl) (fun d _ _ _ _ h => by cases d <;> exact h) ?_
  refine SWz.rd (i := 0) rfl rfl (Rd.move rfl) ?_
  refine SWz.rd (i := 1) rfl rfl (Rd.nilCheckP rfl) ?_
  refine SWz.rd (i := 2) rfl rfl (Rd.fieldR (n := 0) rfl (by kernel_rfl) (show 0 < 4 by decide)) ?_
  refine SWz.rd (i := 3) rfl rfl (Rd.fieldR (n := 0) rfl (by kernel_rfl) (show 0 < 4 by decide)) ?_
  refine SWz.rd (i := 4) rfl rfl (Rd.loadR rfl rfl (by kernel_rfl) (by simp)) ?_
  refine SWz.rd (i := 5) rfl rfl (Rd.eqi rfl rfl) ?_
  refine SWz.rd (i := 6) rfl rfl (Rd.move rfl) ?_
  refine SWz.split 12 rfl (fun hb12 => ?_) (fun hb12 => ?_)
  · have h12 : s.1 = 0 := of_decide_eq_true hb12
    refine SWz.rdg (i := 7) rfl rfl rfl (hb12) rfl rfl (Rd.move rfl) ?_
    refine SWz.rdg (i := 8) rfl rfl rfl (hb12) rfl rfl (Rd.nilCheckP rfl) ?_
    refine SWz.rdg (i := 9) rfl rfl rfl (hb12) rfl rfl (Rd.fieldR (n := 3) rfl (by kernel_rfl) (show 3 < 4 by decide)) ?_
    refine SWz.rdg (i := 10) rfl rfl rfl (hb12) rfl rfl (Rd.loadR rfl rfl (by kernel_rfl) (by simp)) ?_
    refine SWz.rdg (i := 11) rfl rfl rfl (hb12) rfl rfl (Rd.move rfl) ?_
    refine SWz.rdg (i := 12) rfl rfl rfl (hb12) rfl rfl (Rd.nilCheckP rfl) ?_
    refine SWz.rdg (i := 13) rfl rfl rfl (hb12) rfl rfl (Rd.fieldR (n := 2) rfl (by kernel_rfl) (show 2 < 4 by decide)) ?_
    refine SWz.rdg (i := 14) rfl rfl rfl (hb12) rfl rfl (Rd.loadR rfl rfl (by kernel_rfl) (by simp)) ?_
    refine SWz.rdg (i := 15) rfl rfl rfl (hb12) rfl rfl (Rd.len (e := 5) rfl (by kernel_rfl)) ?_
    refine SWz.rdg (i := 16) rfl rfl rfl (hb12) rfl rfl (Rd.lss rfl rfl) ?_
    refine SWz.rd (i := 17) rfl rfl (Rd.pickY rfl (hb12) rfl) ?_
    refine SWz.nil ?_
    refine SN.then ?_
    refine SW.cond rfl (fun hb23 => ?_) (fun hb23 => ?_)
    · have h23 : s.2 < b.length := by have h := of_decide_eq_true hb23; rw [cellsOf_length] at h; omega
      refine SW.seq ?_
      refine SW.region ?_
      refine SWl.rd rfl (Rd.assign rfl) ?_
      refine SWl.nil ?_
      refine SN.then ?_
      refine SW.ret (fn := Tryd.f52) (fun _ _ h => h) (Rs.le (Rs.one rfl (ResV.tmp rfl)) ?_)
      exact Le.trans (Le.is (by rw [endE_long hs h12 h23])) le_nw_is
    · have h23 : ¬ s.2 < b.length := by have h := of_decide_eq_false hb23; rw [cellsOf_length] at h; omega
      refine SW.skip ?_
      refine SN.then ?_
      refine SW.seq ?_
      refine SW.region ?_
      refine SWl.rd rfl (Rd.move rfl) ?_
      refine SWl.rd rfl (Rd.nilCheckP rfl) ?_
      refine SWl.rd rfl (Rd.fieldR (n := 0) rfl (by kernel_rfl) (show 0 < 4 by decide)) ?_
      refine SWl.rd rfl (Rd.fieldR (n := 0) rfl (by kernel_rfl) (show 0 < 4 by decide)) ?_
      refine SWl.rd rfl (Rd.loadR rfl rfl (by kernel_rfl) (by simp)) ?_
      refine SWl.rd rfl (Rd.assign rfl) ?_
      refine SWl.nil ?_
      refine SN.then ?_
      refine SW.ret (fn := Tryd.f52) (fun _ _ h => h) (Rs.le (Rs.one rfl (ResV.tmp rfl)) ?_)
      exact Le.trans (Le.is (by rw [endE_else hs (fun h => h23 h.2)])) le_nw_is
  · have h12 : ¬ s.1 = 0 := of_decide_eq_false hb12
    refine SWz.off (i := 7) rfl rfl rfl (hb12) rfl rfl ?_
    refine SWz.off (i := 8) rfl rfl rfl (hb12) rfl rfl ?_
    refine SWz.off (i := 9) rfl rfl rfl (hb12) rfl rfl ?_
    refine SWz.off (i := 10) rfl rfl rfl (hb12) rfl rfl ?_
    refine SWz.off (i := 11) rfl rfl rfl (hb12) rfl rfl ?_
    refine SWz.off (i := 12) rfl rfl rfl (hb12) rfl rfl ?_
    refine SWz.off (i := 13) rfl rfl rfl (hb12) rfl rfl ?_
    refine SWz.off (i := 14) rfl rfl rfl (hb12) rfl rfl ?_
    refine SWz.off (i := 15) rfl rfl rfl (hb12) rfl rfl ?_
    refine SWz.off (i := 16) rfl rfl rfl (hb12) rfl rfl ?_
    refine SWz.rd (i := 17) rfl rfl (Rd.pickN rfl (hb12) rfl) ?_
    refine SWz.nil ?_
    refine SN.then ?_
    refine SW.condF rfl (rfl) ?_
    refine SW.skip ?_
    refine SN.then ?_
    refine SW.seq ?_
    refine SW.region ?_
    refine SWl.rd rfl (Rd.move rfl) ?_
    refine SWl.rd rfl (Rd.nilCheckP rfl) ?_
    refine SWl.rd rfl (Rd.fieldR (n := 0) rfl (by kernel_rfl) (show 0 < 4 by decide)) ?_
    refine SWl.rd rfl (Rd.fieldR (n := 0) rfl (by kernel_rfl) (show 0 < 4 by decide)) ?_
    refine SWl.rd rfl (Rd.loadR rfl rfl (by kernel_rfl) (by simp)) ?_
    refine SWl.rd rfl (Rd.assign rfl) ?_
    refine SWl.nil ?_
    refine SN.then ?_
    refine SW.ret (fn := Tryd.f52) (fun _ _ h => h) (Rs.le (Rs.one rfl (ResV.tmp rfl)) ?_)
    exact Le.trans (Le.is (by rw [endE_else hs (fun h => h12 h.1)])) le_nw_is
end Sx
end Go.Proofs.YtchbgfgboogniaaDoor
namespace Go.Proofs.YtchbgfgboogniaaDoor
open Go.RowKit
namespace Sx
end Sx
end Go.Proofs.YtchbgfgboogniaaDoor
namespace Go.Proofs.YtchbgfgboogniaaDoor
open Go.RowKit
namespace Sx
theorem rdg_grp : ∀ (j n : Nat) (f : Bool) (p : List UInt8), n < 128 ^ (j + 1) → (n = 0 → f = true) → rdg (j + 1) f (grp n ++ p) = .ok (n, (grp n).length)
  | 0, n, f, p, h, h0 => by
    have hn : n < 128 := by simpa using h
    rw [grp_lt hn, List.singleton_append]
    unfold rdg
    rw [u8_nat (by omega), if_pos hn, if_neg (fun hc => by rw [h0 hc.1] at hc; cases hc.2)]
    rfl
  | j + 1, n, f, p, h, h0 => by
    by_cases hn : n < 128
    · rw [grp_lt hn, List.singleton_append]
      unfold rdg
      rw [u8_nat (by omega), if_pos hn, if_neg (fun hc => by rw [h0 hc.1] at hc; cases hc.2)]
      rfl
    · rw [grp_ge hn, List.cons_append]
      unfold rdg
      rw [u8_nat (by omega), if_neg (by omega), rdg_grp j (n / 128) false p (Nat.div_lt_of_lt_mul (by rw [Nat.pow_succ] at h; omega)) (fun h => by omega)]
      simp only [List.length_cons]
      congr 2
      omega
theorem rdg_inv : ∀ {j : Nat} {f : Bool} {p : List UInt8} {n m : Nat}, rdg j f p = .ok (n, m) → p.take m = grp n ∧ (f = false → 0 < n)
  | 0, f, p, n, m, h => by rw [rdg_zero] at h; cases h
  | j + 1, f, [], n, m, h => by cases h
  | j + 1, f, c :: p, n, m, h => by
    unfold rdg at h
    by_cases hc : c.toNat < 128
    · rw [if_pos hc] at h
      by_cases h0 : c.toNat = 0 ∧ f = false
      · rw [if_pos h0] at h; cases h
      · rw [if_neg h0] at h
        injection h with h
        injection h with h1 h2
        subst h1 h2
        refine ⟨?_, fun hf => ?_⟩
        · rw [grp_lt hc, UInt8.ofNat_toNat]; rfl
        · rcases Nat.eq_zero_or_pos c.toNat with h | h
          · exact absurd ⟨h, hf⟩ h0
          · exact h
    · rw [if_neg hc] at h
      rcases hr : rdg j false p with e | ⟨n', m'⟩
      · rw [hr] at h; cases h
      · rw [hr] at h
        injection h with h
        injection h with h1 h2
        subst h1 h2
        obtain ⟨i1, i2⟩ := rdg_inv hr
        have hp := i2 rfl
        have hcl := u8_lt (c := c)
        refine ⟨?_, fun _ => by omega⟩
        rw [grp_ge (by omega), List.take_succ_cons, i1, show (c.toNat - 128 + 128 * n') % 128 + 128 = c.toNat by omega, show (c.toNat - 128 + 128 * n') / 128 = n' by omega, UInt8.ofNat_toNat]
theorem pow9 {n : Nat} (h : n < 9223372036854775808) : n < 128 ^ (8 + 1) := Nat.lt_of_lt_of_le h (by decide)
theorem stU_grp {n : Nat} {q : List UInt8} (h : n < 9223372036854775808) : stU ⟨grp n ++ q, 0⟩ = ((n : Int), ⟨q, 0⟩) := by
  rw [show stU ⟨grp n ++ q, 0⟩ = _ from stG_ok rfl (rdg_grp 8 n true q (pow9 h) (fun _ => rfl))]
  simp
theorem stC_grp {lim : Int} {n : Nat} {q : List UInt8} (h : n < 9223372036854775808) (hl : (n : Int) ≤ lim) : stC lim ⟨grp n ++ q, 0⟩ = ((n : Int), ⟨q, 0⟩) := by
  have hr : rdC lim (grp n ++ q) = .ok (n, (grp n).length) := by
    unfold rdC
    rw [rdg_grp 8 n true q (pow9 h) (fun _ => rfl)]
    simp only
    rw [if_neg (by omega)]
  rw [show stC lim ⟨grp n ++ q, 0⟩ = _ from stG_ok rfl hr]
  simp
theorem stP_strE {lim : Int} {b q : List UInt8} (h : b.length < 9223372036854775808) (hl : (b.length : Int) ≤ lim) : stP lim ⟨strE b ++ q, 0⟩ = (b, ⟨q, 0⟩) := by
  have hr : rdP lim (strE b ++ q) = .ok (b, (grp b.length).length + b.length) := by
    unfold rdP rdC strE
    rw [List.append_assoc, rdg_grp 8 b.length true (b ++ q) (pow9 h) (fun _ => rfl)]
    simp only
    rw [if_neg (by omega)]
    simp only
    rw [if_neg (by simp only [List.length_append]; omega)]
    simp
  rw [show stP lim ⟨strE b ++ q, 0⟩ = _ from stG_ok rfl hr]
  unfold strE
  rw [← List.length_append]
  simp
theorem stU_inv {r : RT} (h : (stU r).2.e = 0) : r.e = 0 ∧ ∃ n : Nat, (stU r).1 = n ∧ r.p = grp n ++ (stU r).2.p ∧ n < 9223372036854775808 := by
  by_cases h0 : r.e = 0
  · refine ⟨h0, ?_⟩
    rcases hr : rdg 9 true r.p with E | ⟨n, m⟩
    · rw [show stU r = _ from stG_bad h0 hr] at h
      exact absurd h (rdg_ne hr)
    · rw [show stU r = _ from stG_ok h0 hr]
      exact ⟨n, rfl, by rw [← (rdg_inv hr).1, List.take_append_drop], Nat.lt_of_lt_of_le (rdg_bd hr).1 (by decide)⟩
  · rw [show stU r = _ from stG_skip h0] at h
    exact absurd h h0
theorem stC_inv {lim : Int} {r : RT} (h : (stC lim r).2.e = 0) : r.e = 0 ∧ ∃ n : Nat, (stC lim r).1 = n ∧ r.p = grp n ++ (stC lim r).2.p ∧ (n : Int) ≤ lim := by
  by_cases h0 : r.e = 0
  · refine ⟨h0, ?_⟩
    rcases hr : rdC lim r.p with E | ⟨n, m⟩
    · rw [show stC lim r = _ from stG_bad h0 hr] at h
      exact absurd h (rdC_ne hr)
    · rw [show stC lim r = _ from stG_ok h0 hr]
      exact ⟨n, rfl, by rw [← (rdg_inv (rdC_ok hr).1).1, List.take_append_drop], (rdC_ok hr).2⟩
  · rw [show stC lim r = _ from stG_skip h0] at h
    exact absurd h h0
theorem stP_inv {lim : Int} {r : RT} (h : (stP lim r).2.e = 0) : r.e = 0 ∧ r.p = strE (stP lim r).1 ++ (stP lim r).2.p ∧ ((stP lim r).1.length : Int) ≤ lim := by
  by_cases h0 : r.e = 0
  · refine ⟨h0, ?_⟩
    rcases hr : rdP lim r.p with E | ⟨q, m⟩
    · rw [show stP lim r = _ from stG_bad h0 hr] at h
      exact absurd h (rdP_ne hr)
    · rw [show stP lim r = _ from stG_ok h0 hr]
      obtain ⟨n, k, h1, h2, rfl, rfl⟩ := rdP_ok hr
      obtain ⟨h3, h4⟩ := rdC_ok h1
      have hl : ((r.p.drop k).take n).length = n := by rw [List.length_take, List.length_drop]; omega
      refine ⟨?_, by simp only; rw [hl]; exact h4⟩
      simp only
      unfold strE
      rw [hl, ← (rdg_inv h3).1, ← List.drop_drop, List.append_assoc, List.take_append_drop, List.take_append_drop]
  · rw [show stP lim r = _ from stG_skip h0] at h
    exact absurd h h0
end Sx
end Go.Proofs.YtchbgfgboogniaaDoor
