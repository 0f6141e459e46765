/-
  WIRE: value, and the reader's methods.
  WIRE: Read, Err, End; the reference's Ungroup.
  WIRE: the reference's readers.
  WIRE: what is written is read again, and what is read was written so; in plain terms.
-/
import Derived.Test.YtchbgfgboogniaaDoorGK
namespace Go.Proofs.YtchbgfgboogniaaDoor
open Go.RowKit
namespace Sx
set_option maxHeartbeats 4000000 in
set_option maxRecDepth 100000 in
theorem con_valueUint_ok (gr gp gn : Nat) (b : List UInt8) (k : Nat) (hb : b.length ≤ 1000000) (n m : Nat) (h : (rdg 9 true) (b.drop k) = .ok (n, m)) : ConR Tryd.prog 89 [.c gr [iD 0, boolD true, bD b, iD ((k : Nat) : Int)], .c gp [isD (.pointer (some ⟨gr, 0, none⟩))], .c gn [iD 0]] [isD (.pointer (some ⟨gr, 0, none⟩)), isD (.func (.func 95) #[] #[.pointer (some ⟨gp, 0, none⟩), .pointer (some ⟨gn, 0, none⟩)])] (fun _ : Unit => [.c gr [iD 0, boolD true, bD b, iD ((k + m : Nat) : Int)], .c gp [isD (.pointer (some ⟨gr, 0, none⟩))], .c gn [iD (n : Int)]]) (fun _ : Unit => isD (.tuple #[])) := by
  refine con_ofRD Tryd.func89 (by kernel_rfl) rfl (by kernel_rfl) fun base w0 => ?_
  refine SW.seq ?_
  refine SW.region ?_
  refine SWl.ef (S := []) (Ef.boxV rfl (fun _ _ _ h => one_cells (One.h _ _ _ h)) rfl) ?_
  rintro _ ⟨g2, rfl⟩
  refine SWl.nil ?_
  refine SN.then ?_
  refine SW.seq ?_
  refine SW.seq ?_
  refine SW.region ?_
  refine SWl.rd rfl (Rd.loadB 3 rfl rfl rfl (by kernel_rfl) ap_nil) ?_
  refine SWl.ef (S := []) (Ef.callN [0] (con_rvalid b k 0) rfl ⟨(sees_box 0 rfl (by decide) ⟨(sees_le (Le.refl _)), (sees_le (Le.refl _)), (sees_le (Le.refl _)), (sees_le (Le.refl _)), trivial⟩), trivial⟩ rfl) ?_
  rintro _ rfl
  refine SWl.rd rfl (Rd.not rfl) ?_
  refine SWl.rd rfl (Rd.move rfl) ?_
  refine SWl.rdg rfl rfl (rfl) rfl rfl (Rd.loadB 3 rfl rfl rfl (by kernel_rfl) ap_nil) ?_
  refine SWl.rdg rfl rfl (rfl) rfl rfl (Rd.nilCheck rfl) ?_
  refine SWl.rdg rfl rfl (rfl) rfl rfl (Rd.fieldAddr (n := 0) rfl (by kernel_rfl)) ?_
  refine SWl.rdg rfl rfl (rfl) rfl rfl (Rd.fieldAddr (n := 0) rfl (by kernel_rfl)) ?_
  refine SWl.rdg rfl rfl (rfl) rfl rfl (Rd.loadB 0 rfl rfl rfl (by kernel_rfl) ap_nil) ?_
  refine SWl.rdg rfl rfl (rfl) rfl rfl (Rd.nei rfl rfl) ?_
  refine SWl.rd rfl (Rd.pickN rfl (rfl) rfl) ?_
  refine SWl.nil ?_
  refine SN.then ?_
  refine SW.condF rfl (by decide) ?_
  refine SW.skip ?_
  refine SN.then ?_
  refine SW.seq ?_
  refine SW.region ?_
  refine SWl.rd rfl (Rd.loadB 3 rfl rfl rfl (by kernel_rfl) ap_nil) ?_
  refine SWl.rd rfl (Rd.nilCheck rfl) ?_
  refine SWl.rd rfl (Rd.fieldAddr (n := 3) rfl (by kernel_rfl)) ?_
  refine SWl.rd rfl (Rd.loadB 0 rfl rfl rfl (by kernel_rfl) ap_nil) ?_
  refine SWl.ef (S := []) (Ef.alloc (zs := [.int .i64 0]) (by kernel_rfl) rfl) ?_
  rintro _ ⟨g4, rfl⟩
  refine SWl.ef (S := [_]) (Ef.storeV 4 rfl rfl rfl (by kernel_rfl) rfl (List.mem_singleton.2 rfl)) ?_
  rintro _ rfl
  refine SWl.nil ?_
  refine SN.then ?_
  refine SW.seq ?_
  refine SW.region ?_
  refine SWl.rd rfl (Rd.makeFunc [.pointer (some ⟨g4, 0, none⟩), .pointer (some ⟨g2, 0, none⟩)] rfl) ?_
  refine SWl.defer (cap := [.pointer (some ⟨g4, 0, none⟩), .pointer (some ⟨g2, 0, none⟩)]) rfl ?_
  refine SWl.nil ?_
  refine SN.then ?_
  refine SW.region ?_
  refine SWl.rd rfl (Rd.move rfl) ?_
  refine SWl.ef (Ef.callVR (cap := [.pointer (some ⟨gp, 0, none⟩), .pointer (some ⟨gn, 0, none⟩)]) [0, 1, 2] (con_clUint gr gp gn b k hb n m h) rfl rfl ⟨Le.refl _, Le.refl _, trivial⟩ (by decide) ⟨⟨_, rfl, LeAll.refl _⟩, ⟨⟨_, rfl, LeAll.refl _⟩, ⟨⟨_, rfl, LeAll.refl _⟩, trivial⟩⟩⟩ (fun _ h => h) rfl) ?_
  rintro _ ⟨⟨⟩, rfl⟩
  refine SWl.nil ?_
  refine SN.retL ?_
  refine RL.defer (cap := [.pointer (some ⟨g4, 0, none⟩), .pointer (some ⟨g2, 0, none⟩)]) [] (by simp) (con_vd_ret g4 g2) (by decide) trivial ?_
  refine RL.fin (()) [2, 3, 4] (Rs.le (Rs.none rfl) ?_) (by decide) ⟨⟨_, rfl, LeAll.refl _⟩, ⟨⟨_, rfl, LeAll.refl _⟩, ⟨⟨_, rfl, LeAll.refl _⟩, trivial⟩⟩⟩
  exact Le.refl _
set_option maxHeartbeats 4000000 in
set_option maxRecDepth 100000 in
theorem con_valueUint_bad (gr gp gn : Nat) (b : List UInt8) (k : Nat) (hb : b.length ≤ 1000000) (E : Int) (h : (rdg 9 true) (b.drop k) = .error E) : ConR Tryd.prog 89 [.c gr [iD 0, boolD true, bD b, iD ((k : Nat) : Int)], .c gp [isD (.pointer (some ⟨gr, 0, none⟩))], .c gn [iD 0]] [isD (.pointer (some ⟨gr, 0, none⟩)), isD (.func (.func 95) #[] #[.pointer (some ⟨gp, 0, none⟩), .pointer (some ⟨gn, 0, none⟩)])] (fun _ : Unit => [.c gr [iD E, boolD true, bD b, iD ((k : Nat) : Int)], .c gp [isD (.pointer (some ⟨gr, 0, none⟩))], .c gn [iD 0]]) (fun _ : Unit => isD (.tuple #[])) := by
  refine con_ofRD Tryd.func89 (by kernel_rfl) rfl (by kernel_rfl) fun base w0 => ?_
  refine SW.seq ?_
  refine SW.region ?_
  refine SWl.ef (S := []) (Ef.boxV rfl (fun _ _ _ h => one_cells (One.h _ _ _ h)) rfl) ?_
  rintro _ ⟨g2, rfl⟩
  refine SWl.nil ?_
  refine SN.then ?_
  refine SW.seq ?_
  refine SW.seq ?_
  refine SW.region ?_
  refine SWl.rd rfl (Rd.loadB 3 rfl rfl rfl (by kernel_rfl) ap_nil) ?_
  refine SWl.ef (S := []) (Ef.callN [0] (con_rvalid b k 0) rfl ⟨(sees_box 0 rfl (by decide) ⟨(sees_le (Le.refl _)), (sees_le (Le.refl _)), (sees_le (Le.refl _)), (sees_le (Le.refl _)), trivial⟩), trivial⟩ rfl) ?_
  rintro _ rfl
  refine SWl.rd rfl (Rd.not rfl) ?_
  refine SWl.rd rfl (Rd.move rfl) ?_
  refine SWl.rdg rfl rfl (rfl) rfl rfl (Rd.loadB 3 rfl rfl rfl (by kernel_rfl) ap_nil) ?_
  refine SWl.rdg rfl rfl (rfl) rfl rfl (Rd.nilCheck rfl) ?_
  refine SWl.rdg rfl rfl (rfl) rfl rfl (Rd.fieldAddr (n := 0) rfl (by kernel_rfl)) ?_
  refine SWl.rdg rfl rfl (rfl) rfl rfl (Rd.fieldAddr (n := 0) rfl (by kernel_rfl)) ?_
  refine SWl.rdg rfl rfl (rfl) rfl rfl (Rd.loadB 0 rfl rfl rfl (by kernel_rfl) ap_nil) ?_
  refine SWl.rdg rfl rfl (rfl) rfl rfl (Rd.nei rfl rfl) ?_
  refine SWl.rd rfl (Rd.pickN rfl (rfl) rfl) ?_
  refine SWl.nil ?_
  refine SN.then ?_
  refine SW.condF rfl (by decide) ?_
  refine SW.skip ?_
  refine SN.then ?_
  refine SW.seq ?_
  refine SW.region ?_
  refine SWl.rd rfl (Rd.loadB 3 rfl rfl rfl (by kernel_rfl) ap_nil) ?_
  refine SWl.rd rfl (Rd.nilCheck rfl) ?_
  refine SWl.rd rfl (Rd.fieldAddr (n := 3) rfl (by kernel_rfl)) ?_
  refine SWl.rd rfl (Rd.loadB 0 rfl rfl rfl (by kernel_rfl) ap_nil) ?_
  refine SWl.ef (S := []) (Ef.alloc (zs := [.int .i64 0]) (by kernel_rfl) rfl) ?_
  rintro _ ⟨g4, rfl⟩
  refine SWl.ef (S := [_]) (Ef.storeV 4 rfl rfl rfl (by kernel_rfl) rfl (List.mem_singleton.2 rfl)) ?_
  rintro _ rfl
  refine SWl.nil ?_
  refine SN.then ?_
  refine SW.seq ?_
  refine SW.region ?_
  refine SWl.rd rfl (Rd.makeFunc [.pointer (some ⟨g4, 0, none⟩), .pointer (some ⟨g2, 0, none⟩)] rfl) ?_
  refine SWl.defer (cap := [.pointer (some ⟨g4, 0, none⟩), .pointer (some ⟨g2, 0, none⟩)]) rfl ?_
  refine SWl.nil ?_
  refine SN.then ?_
  refine SW.region ?_
  refine SWl.rd rfl (Rd.move rfl) ?_
  refine SWl.callPRV (cap := [.pointer (some ⟨gp, 0, none⟩), .pointer (some ⟨gn, 0, none⟩)]) [0, 1, 2] (con_clUint_bad gr gp gn b k hb E h) rfl rfl ⟨Le.refl _, Le.refl _, trivial⟩ (by decide) ⟨⟨_, rfl, LeAll.refl _⟩, ⟨⟨_, rfl, LeAll.refl _⟩, ⟨⟨_, rfl, LeAll.refl _⟩, trivial⟩⟩⟩ ?_
  intro q
  repeat (first | refine SP.then ?_ | refine SP.block ?_)
  refine SP.retL ?_
  refine RL.defer (cap := [.pointer (some ⟨g4, 0, none⟩), .pointer (some ⟨g2, 0, none⟩)]) [1, 0, 2] (by simp) (con_vd_pan g4 g2 gr b k q E) (by decide) ⟨⟨_, rfl, LeAll.refl _⟩, ⟨_, rfl, LeAll.refl _⟩, ⟨_, rfl, LeAll.refl _⟩, trivial⟩ ?_
  refine RL.fin (()) [4, 0, 1] (Rs.le (Rs.none rfl) ?_) (by decide) ⟨⟨_, rfl, LeAll.refl _⟩, ⟨⟨_, rfl, LeAll.refl _⟩, ⟨⟨_, rfl, LeAll.refl _⟩, trivial⟩⟩⟩
  exact Le.refl _
set_option maxHeartbeats 4000000 in
set_option maxRecDepth 100000 in
theorem con_valueUint_skip (gr gp gn : Nat) (b : List UInt8) (k : Nat) (hb : b.length ≤ 1000000) (e : Int) (he : e ≠ 0) : ConR Tryd.prog 89 [.c gr [iD e, boolD true, bD b, iD ((k : Nat) : Int)], .c gp [isD (.pointer (some ⟨gr, 0, none⟩))], .c gn [iD 0]] [isD (.pointer (some ⟨gr, 0, none⟩)), isD (.func (.func 95) #[] #[.pointer (some ⟨gp, 0, none⟩), .pointer (some ⟨gn, 0, none⟩)])] (fun _ : Unit => [.c gr [iD e, boolD true, bD b, iD ((k : Nat) : Int)], .c gp [isD (.pointer (some ⟨gr, 0, none⟩))], .c gn [iD 0]]) (fun _ : Unit => isD (.tuple #[])) := by
  refine con_ofRD Tryd.func89 (by kernel_rfl) rfl (by kernel_rfl) fun base w0 => ?_
  refine SW.seq ?_
  refine SW.region ?_
  refine SWl.ef (S := []) (Ef.boxV rfl (fun _ _ _ h => one_cells (One.h _ _ _ h)) rfl) ?_
  rintro _ ⟨g2, rfl⟩
  refine SWl.nil ?_
  refine SN.then ?_
  refine SW.seq ?_
  refine SW.seq ?_
  refine SW.region ?_
  refine SWl.rd rfl (Rd.loadB 3 rfl rfl rfl (by kernel_rfl) ap_nil) ?_
  refine SWl.ef (S := []) (Ef.callN [0] (con_rvalid b k e) rfl ⟨(sees_box 0 rfl (by decide) ⟨(sees_le (Le.refl _)), (sees_le (Le.refl _)), (sees_le (Le.refl _)), (sees_le (Le.refl _)), trivial⟩), trivial⟩ rfl) ?_
  rintro _ rfl
  refine SWl.rd rfl (Rd.not rfl) ?_
  refine SWl.rd rfl (Rd.move rfl) ?_
  refine SWl.rdg rfl rfl (rfl) rfl rfl (Rd.loadB 3 rfl rfl rfl (by kernel_rfl) ap_nil) ?_
  refine SWl.rdg rfl rfl (rfl) rfl rfl (Rd.nilCheck rfl) ?_
  refine SWl.rdg rfl rfl (rfl) rfl rfl (Rd.fieldAddr (n := 0) rfl (by kernel_rfl)) ?_
  refine SWl.rdg rfl rfl (rfl) rfl rfl (Rd.fieldAddr (n := 0) rfl (by kernel_rfl)) ?_
  refine SWl.rdg rfl rfl (rfl) rfl rfl (Rd.loadB 0 rfl rfl rfl (by kernel_rfl) ap_nil) ?_
  refine SWl.rdg rfl rfl (rfl) rfl rfl (Rd.nei rfl rfl) ?_
  refine SWl.rd rfl (Rd.pickN rfl (rfl) rfl) ?_
  refine SWl.nil ?_
  refine SN.then ?_
  refine SW.condT rfl (by simp [he]) ?_
  refine SW.retL (fun _ _ h => h) ?_
  refine RL.fin (()) [0, 1, 2] (Rs.le (Rs.none rfl) ?_) (by decide) ⟨⟨_, rfl, LeAll.refl _⟩, ⟨⟨_, rfl, LeAll.refl _⟩, ⟨⟨_, rfl, LeAll.refl _⟩, trivial⟩⟩⟩
  exact Le.refl _
theorem con_valueUint (gr gp gn : Nat) (b : List UInt8) (hb : b.length ≤ 1000000) (s : Int × Nat) (r : RT) (hs : RRel b s r) : ConR Tryd.prog 89 [.c gr [iD s.1, boolD true, bD b, iD ((s.2 : Nat) : Int)], .c gp [isD (.pointer (some ⟨gr, 0, none⟩))], .c gn [iD 0]] [isD (.pointer (some ⟨gr, 0, none⟩)), isD (.func (.func 95) #[] #[.pointer (some ⟨gp, 0, none⟩), .pointer (some ⟨gn, 0, none⟩)])] (fun t : RdS b (stU r).2 => [.c gr [iD t.1.1, boolD true, bD b, iD ((t.1.2 : Nat) : Int)], .c gp [isD (.pointer (some ⟨gr, 0, none⟩))], .c gn [iD (stU r).1]]) (fun _ => isD (.tuple #[])) := by
  obtain ⟨e, k⟩ := s
  obtain ⟨p, e'⟩ := r
  obtain ⟨h1, h2, h3⟩ := hs
  dsimp only at h1 h2 h3
  subst h1
  by_cases he : e = 0
  · subst he
    obtain rfl := h3 rfl
    rcases hr : (rdg 9 true) (b.drop k) with E | ⟨n, m⟩
    · rw [show stU ⟨b.drop k, 0⟩ = _ from stG_bad rfl hr]
      exact (con_valueUint_bad gr gp gn b k hb E hr).map (fun _ => ⟨(E, k), RRel.bad h2 (rdg_ne hr)⟩) (fun _ => rfl) (fun _ => rfl)
    · rw [show stU ⟨b.drop k, 0⟩ = _ from stG_ok rfl hr]
      exact (con_valueUint_ok gr gp gn b k hb n m hr).map (fun _ => ⟨(0, k + m), RRel.good (rdg_in h2 hr)⟩) (fun _ => rfl) (fun _ => rfl)
  · rw [show stU ⟨p, e⟩ = _ from stG_skip he]
    exact (con_valueUint_skip gr gp gn b k hb e he).map (fun _ => ⟨(e, k), rfl, h2, h3⟩) (fun _ => rfl) (fun _ => rfl)
set_option maxHeartbeats 4000000 in
set_option maxRecDepth 100000 in
theorem con_rUint (gr : Nat) (b : List UInt8) (hb : b.length ≤ 1000000) (s : Int × Nat) (r : RT) (hs : RRel b s r) : ConR Tryd.prog 50 [.c gr [iD s.1, boolD true, bD b, iD ((s.2 : Nat) : Int)]] [isD (.pointer (some ⟨gr, 0, none⟩))] (fun t : RdS b (stU r).2 => [.c gr [iD t.1.1, boolD true, bD b, iD ((t.1.2 : Nat) : Int)]]) (fun t : RdS b (stU r).2 => iD (stU r).1) := by
  refine con_ofR Tryd.func50 (by kernel_rfl) rfl (by kernel_rfl) fun base w0 => ?_
  refine SW.seq ?_
  refine SW.region ?_
  refine SWl.ef (S := []) (Ef.boxV rfl (fun _ _ _ h => one_cells (One.h _ _ _ h)) rfl) ?_
  rintro _ ⟨g1, rfl⟩
  refine SWl.rd rfl (Rd.assign rfl) ?_
  refine SWl.nil ?_
  refine SN.then ?_
  refine SW.seq ?_
  refine SW.region ?_
  refine SWl.ef (S := []) (Ef.alloc (zs := [.int .i64 0]) (by kernel_rfl) rfl) ?_
  rintro _ ⟨g3, rfl⟩
  refine SWl.ef (S := [_]) (Ef.storeV 2 rfl rfl rfl (by kernel_rfl) rfl (List.mem_singleton.2 rfl)) ?_
  rintro _ rfl
  refine SWl.nil ?_
  refine SN.then ?_
  refine SW.seq ?_
  refine SW.region ?_
  refine SWl.rd rfl (Rd.loadB 1 rfl rfl rfl (by kernel_rfl) ap_nil) ?_
  refine SWl.rd rfl (Rd.makeFunc [.pointer (some ⟨g1, 0, none⟩), .pointer (some ⟨g3, 0, none⟩)] rfl) ?_
  refine SWl.ef (Ef.callR [0, 1, 2] (con_valueUint gr g1 g3 b hb s r hs) rfl ⟨Le.refl _, Le.refl _, trivial⟩ (by decide) ⟨⟨_, rfl, LeAll.refl _⟩, ⟨⟨_, rfl, LeAll.refl _⟩, ⟨⟨_, rfl, LeAll.refl _⟩, trivial⟩⟩⟩ (fun _ h => h) rfl) ?_
  rintro _ ⟨t8, rfl⟩
  refine SWl.nil ?_
  refine SN.then ?_
  refine SW.seq ?_
  refine SW.region ?_
  refine SWl.rd rfl (Rd.loadB 2 rfl rfl rfl (by kernel_rfl) ap_nil) ?_
  refine SWl.rd rfl (Rd.assign rfl) ?_
  refine SWl.nil ?_
  refine SN.then ?_
  refine SW.retR (fn := Tryd.f50) (t8) [0] (fun _ _ h => h) (Rs.one rfl (ResV.tmp rfl)) (by decide) ⟨⟨_, rfl, LeAll.refl _⟩, trivial⟩
set_option maxHeartbeats 4000000 in
set_option maxRecDepth 100000 in
theorem con_valueString_ok (gr gp gl gn : Nat) (b : List UInt8) (k : Nat) (hb : b.length ≤ 1000000) (lim : Int) (hl : 0 ≤ lim) (q : List UInt8) (m : Nat) (h : (rdP lim) (b.drop k) = .ok (q, m)) : ConR Tryd.prog 89 [.c gr [iD 0, boolD true, bD b, iD ((k : Nat) : Int)], .c gp [isD (.pointer (some ⟨gr, 0, none⟩))], .c gl [iD lim], .c gn [strD []]] [isD (.pointer (some ⟨gr, 0, none⟩)), isD (.func (.func 93) #[] #[.pointer (some ⟨gp, 0, none⟩), .pointer (some ⟨gl, 0, none⟩), .pointer (some ⟨gn, 0, none⟩)])] (fun _ : Unit => [.c gr [iD 0, boolD true, bD b, iD ((k + m : Nat) : Int)], .c gp [isD (.pointer (some ⟨gr, 0, none⟩))], .c gl [iD lim], .c gn [strD q]]) (fun _ : Unit => isD (.tuple #[])) := by
  refine con_ofRD Tryd.func89 (by kernel_rfl) rfl (by kernel_rfl) fun base w0 => ?_
  refine SW.seq ?_
  refine SW.region ?_
  refine SWl.ef (S := []) (Ef.boxV rfl (fun _ _ _ h => one_cells (One.h _ _ _ h)) rfl) ?_
  rintro _ ⟨g2, rfl⟩
  refine SWl.nil ?_
  refine SN.then ?_
  refine SW.seq ?_
  refine SW.seq ?_
  refine SW.region ?_
  refine SWl.rd rfl (Rd.loadB 4 rfl rfl rfl (by kernel_rfl) ap_nil) ?_
  refine SWl.ef (S := []) (Ef.callN [0] (con_rvalid b k 0) rfl ⟨(sees_box 0 rfl (by decide) ⟨(sees_le (Le.refl _)), (sees_le (Le.refl _)), (sees_le (Le.refl _)), (sees_le (Le.refl _)), trivial⟩), trivial⟩ rfl) ?_
  rintro _ rfl
  refine SWl.rd rfl (Rd.not rfl) ?_
  refine SWl.rd rfl (Rd.move rfl) ?_
  refine SWl.rdg rfl rfl (rfl) rfl rfl (Rd.loadB 4 rfl rfl rfl (by kernel_rfl) ap_nil) ?_
  refine SWl.rdg rfl rfl (rfl) rfl rfl (Rd.nilCheck rfl) ?_
  refine SWl.rdg rfl rfl (rfl) rfl rfl (Rd.fieldAddr (n := 0) rfl (by kernel_rfl)) ?_
  refine SWl.rdg rfl rfl (rfl) rfl rfl (Rd.fieldAddr (n := 0) rfl (by kernel_rfl)) ?_
  refine SWl.rdg rfl rfl (rfl) rfl rfl (Rd.loadB 0 rfl rfl rfl (by kernel_rfl) ap_nil) ?_
  refine SWl.rdg rfl rfl (rfl) rfl rfl (Rd.nei rfl rfl) ?_
  refine SWl.rd rfl (Rd.pickN rfl (rfl) rfl) ?_
  refine SWl.nil ?_
  refine SN.then ?_
  refine SW.condF rfl (by decide) ?_
  refine SW.skip ?_
  refine SN.then ?_
  refine SW.seq ?_
  refine SW.region ?_
  refine SWl.rd rfl (Rd.loadB 4 rfl rfl rfl (by kernel_rfl) ap_nil) ?_
  refine SWl.rd rfl (Rd.nilCheck rfl) ?_
  refine SWl.rd rfl (Rd.fieldAddr (n := 3) rfl (by kernel_rfl)) ?_
  refine SWl.rd rfl (Rd.loadB 0 rfl rfl rfl (by kernel_rfl) ap_nil) ?_
  refine SWl.ef (S := []) (Ef.alloc (zs := [.int .i64 0]) (by kernel_rfl) rfl) ?_
  rintro _ ⟨g4, rfl⟩
  refine SWl.ef (S := [_]) (Ef.storeV 5 rfl rfl rfl (by kernel_rfl) rfl (List.mem_singleton.2 rfl)) ?_
  rintro _ rfl
  refine SWl.nil ?_
  refine SN.then ?_
  refine SW.seq ?_
  refine SW.region ?_
  refine SWl.rd rfl (Rd.makeFunc [.pointer (some ⟨g4, 0, none⟩), .pointer (some ⟨g2, 0, none⟩)] rfl) ?_
  refine SWl.defer (cap := [.pointer (some ⟨g4, 0, none⟩), .pointer (some ⟨g2, 0, none⟩)]) rfl ?_
  refine SWl.nil ?_
  refine SN.then ?_
  refine SW.region ?_
  refine SWl.rd rfl (Rd.move rfl) ?_
  refine SWl.ef (Ef.callVR (cap := [.pointer (some ⟨gp, 0, none⟩), .pointer (some ⟨gl, 0, none⟩), .pointer (some ⟨gn, 0, none⟩)]) [0, 1, 2, 3] (con_clString gr gp gl gn b k hb lim hl q m h) rfl rfl ⟨Le.refl _, Le.refl _, Le.refl _, trivial⟩ (by decide) ⟨⟨_, rfl, LeAll.refl _⟩, ⟨⟨_, rfl, LeAll.refl _⟩, ⟨⟨_, rfl, LeAll.refl _⟩, ⟨⟨_, rfl, LeAll.refl _⟩, trivial⟩⟩⟩⟩ (fun _ h => h) rfl) ?_
  rintro _ ⟨⟨⟩, rfl⟩
  refine SWl.nil ?_
  refine SN.retL ?_
  refine RL.defer (cap := [.pointer (some ⟨g4, 0, none⟩), .pointer (some ⟨g2, 0, none⟩)]) [] (by simp) (con_vd_ret g4 g2) (by decide) trivial ?_
  refine RL.fin (()) [2, 3, 4, 5] (Rs.le (Rs.none rfl) ?_) (by decide) ⟨⟨_, rfl, LeAll.refl _⟩, ⟨⟨_, rfl, LeAll.refl _⟩, ⟨⟨_, rfl, LeAll.refl _⟩, ⟨⟨_, rfl, LeAll.refl _⟩, trivial⟩⟩⟩⟩
  exact Le.refl _
set_option maxHeartbeats 4000000 in
set_option maxRecDepth 100000 in
theorem con_valueString_bad (gr gp gl gn : Nat) (b : List UInt8) (k : Nat) (hb : b.length ≤ 1000000) (lim : Int) (hl : 0 ≤ lim) (E : Int) (h : (rdP lim) (b.drop k) = .error E) : ConR Tryd.prog 89 [.c gr [iD 0, boolD true, bD b, iD ((k : Nat) : Int)], .c gp [isD (.pointer (some ⟨gr, 0, none⟩))], .c gl [iD lim], .c gn [strD []]] [isD (.pointer (some ⟨gr, 0, none⟩)), isD (.func (.func 93) #[] #[.pointer (some ⟨gp, 0, none⟩), .pointer (some ⟨gl, 0, none⟩), .pointer (some ⟨gn, 0, none⟩)])] (fun _ : Unit => [.c gr [iD E, boolD true, bD b, iD ((k : Nat) : Int)], .c gp [isD (.pointer (some ⟨gr, 0, none⟩))], .c gl [iD lim], .c gn [strD []]]) (fun _ : Unit => isD (.tuple #[])) := by
  refine con_ofRD Tryd.func89 (by kernel_rfl) rfl (by kernel_rfl) fun base w0 => ?_
  refine SW.seq ?_
  refine SW.region ?_
  refine SWl.ef (S := []) (Ef.boxV rfl (fun _ _ _ h => one_cells (One.h _ _ _ h)) rfl) ?_
  rintro _ ⟨g2, rfl⟩
  refine SWl.nil ?_
  refine SN.then ?_
  refine SW.seq ?_
  refine SW.seq ?_
  refine SW.region ?_
  refine SWl.rd rfl (Rd.loadB 4 rfl rfl rfl (by kernel_rfl) ap_nil) ?_
  refine SWl.ef (S := []) (Ef.callN [0] (con_rvalid b k 0) rfl ⟨(sees_box 0 rfl (by decide) ⟨(sees_le (Le.refl _)), (sees_le (Le.refl _)), (sees_le (Le.refl _)), (sees_le (Le.refl _)), trivial⟩), trivial⟩ rfl) ?_
  rintro _ rfl
  refine SWl.rd rfl (Rd.not rfl) ?_
  refine SWl.rd rfl (Rd.move rfl) ?_
  refine SWl.rdg rfl rfl (rfl) rfl rfl (Rd.loadB 4 rfl rfl rfl (by kernel_rfl) ap_nil) ?_
  refine SWl.rdg rfl rfl (rfl) rfl rfl (Rd.nilCheck rfl) ?_
  refine SWl.rdg rfl rfl (rfl) rfl rfl (Rd.fieldAddr (n := 0) rfl (by kernel_rfl)) ?_
  refine SWl.rdg rfl rfl (rfl) rfl rfl (Rd.fieldAddr (n := 0) rfl (by kernel_rfl)) ?_
  refine SWl.rdg rfl rfl (rfl) rfl rfl (Rd.loadB 0 rfl rfl rfl (by kernel_rfl) ap_nil) ?_
  refine SWl.rdg rfl rfl (rfl) rfl rfl (Rd.nei rfl rfl) ?_
  refine SWl.rd rfl (Rd.pickN rfl (rfl) rfl) ?_
  refine SWl.nil ?_
  refine SN.then ?_
  refine SW.condF rfl (by decide) ?_
  refine SW.skip ?_
  refine SN.then ?_
  refine SW.seq ?_
  refine SW.region ?_
  refine SWl.rd rfl (Rd.loadB 4 rfl rfl rfl (by kernel_rfl) ap_nil) ?_
  refine SWl.rd rfl (Rd.nilCheck rfl) ?_
  refine SWl.rd rfl (Rd.fieldAddr (n := 3) rfl (by kernel_rfl)) ?_
  refine SWl.rd rfl (Rd.loadB 0 rfl rfl rfl (by kernel_rfl) ap_nil) ?_
  refine SWl.ef (S := []) (Ef.alloc (zs := [.int .i64 0]) (by kernel_rfl) rfl) ?_
  rintro _ ⟨g4, rfl⟩
  refine SWl.ef (S := [_]) (Ef.storeV 5 rfl rfl rfl (by kernel_rfl) rfl (List.mem_singleton.2 rfl)) ?_
  rintro _ rfl
  refine SWl.nil ?_
  refine SN.then ?_
  refine SW.seq ?_
  refine SW.region ?_
  refine SWl.rd rfl (Rd.makeFunc [.pointer (some ⟨g4, 0, none⟩), .pointer (some ⟨g2, 0, none⟩)] rfl) ?_
  refine SWl.defer (cap := [.pointer (some ⟨g4, 0, none⟩), .pointer (some ⟨g2, 0, none⟩)]) rfl ?_
  refine SWl.nil ?_
  refine SN.then ?_
  refine SW.region ?_
  refine SWl.rd rfl (Rd.move rfl) ?_
  refine SWl.callPRV (cap := [.pointer (some ⟨gp, 0, none⟩), .pointer (some ⟨gl, 0, none⟩), .pointer (some ⟨gn, 0, none⟩)]) [0, 1, 2, 3] (con_clString_bad gr gp gl gn b k hb lim hl E h) rfl rfl ⟨Le.refl _, Le.refl _, Le.refl _, trivial⟩ (by decide) ⟨⟨_, rfl, LeAll.refl _⟩, ⟨⟨_, rfl, LeAll.refl _⟩, ⟨⟨_, rfl, LeAll.refl _⟩, ⟨⟨_, rfl, LeAll.refl _⟩, trivial⟩⟩⟩⟩ ?_
  intro q
  repeat (first | refine SP.then ?_ | refine SP.block ?_)
  refine SP.retL ?_
  refine RL.defer (cap := [.pointer (some ⟨g4, 0, none⟩), .pointer (some ⟨g2, 0, none⟩)]) [1, 0, 2] (by simp) (con_vd_pan g4 g2 gr b k q E) (by decide) ⟨⟨_, rfl, LeAll.refl _⟩, ⟨_, rfl, LeAll.refl _⟩, ⟨_, rfl, LeAll.refl _⟩, trivial⟩ ?_
  refine RL.fin (()) [5, 0, 1, 2] (Rs.le (Rs.none rfl) ?_) (by decide) ⟨⟨_, rfl, LeAll.refl _⟩, ⟨⟨_, rfl, LeAll.refl _⟩, ⟨⟨_, rfl, LeAll.refl _⟩, ⟨⟨_, rfl, LeAll.refl _⟩, trivial⟩⟩⟩⟩
  exact Le.refl _
set_option maxHeartbeats 4000000 in
set_option maxRecDepth 100000 in
theorem con_valueString_skip (gr gp gl gn : Nat) (b : List UInt8) (k : Nat) (hb : b.length ≤ 1000000) (lim : Int) (hl : 0 ≤ lim) (e : Int) (he : e ≠ 0) : ConR Tryd.prog 89 [.c gr [iD e, boolD true, bD b, iD ((k : Nat) : Int)], .c gp [isD (.pointer (some ⟨gr, 0, none⟩))], .c gl [iD lim], .c gn [strD []]] [isD (.pointer (some ⟨gr, 0, none⟩)), isD (.func (.func 93) #[] #[.pointer (some ⟨gp, 0, none⟩), .pointer (some ⟨gl, 0, none⟩), .pointer (some ⟨gn, 0, none⟩)])] (fun _ : Unit => [.c gr [iD e, boolD true, bD b, iD ((k : Nat) : Int)], .c gp [isD (.pointer (some ⟨gr, 0, none⟩))], .c gl [iD lim], .c gn [strD []]]) (fun _ : Unit => isD (.tuple #[])) := by
  refine con_ofRD Tryd.func89 (by kernel_rfl) rfl (by kernel_rfl) fun base w0 => ?_
  refine SW.seq ?_
  refine SW.region ?_
  refine SWl.ef (S := []) (Ef.boxV rfl (fun _ _ _ h => one_cells (One.h _ _ _ h)) rfl) ?_
  rintro _ ⟨g2, rfl⟩
  refine SWl.nil ?_
  refine SN.then ?_
  refine SW.seq ?_
  refine SW.seq ?_
  refine SW.region ?_
  refine SWl.rd rfl (Rd.loadB 4 rfl rfl rfl (by kernel_rfl) ap_nil) ?_
  refine SWl.ef (S := []) (Ef.callN [0] (con_rvalid b k e) rfl ⟨(sees_box 0 rfl (by decide) ⟨(sees_le (Le.refl _)), (sees_le (Le.refl _)), (sees_le (Le.refl _)), (sees_le (Le.refl _)), trivial⟩), trivial⟩ rfl) ?_
  rintro _ rfl
  refine SWl.rd rfl (Rd.not rfl) ?_
  refine SWl.rd rfl (Rd.move rfl) ?_
  refine SWl.rdg rfl rfl (rfl) rfl rfl (Rd.loadB 4 rfl rfl rfl (by kernel_rfl) ap_nil) ?_
  refine SWl.rdg rfl rfl (rfl) rfl rfl (Rd.nilCheck rfl) ?_
  refine SWl.rdg rfl rfl (rfl) rfl rfl (Rd.fieldAddr (n := 0) rfl (by kernel_rfl)) ?_
  refine SWl.rdg rfl rfl (rfl) rfl rfl (Rd.fieldAddr (n := 0) rfl (by kernel_rfl)) ?_
  refine SWl.rdg rfl rfl (rfl) rfl rfl (Rd.loadB 0 rfl rfl rfl (by kernel_rfl) ap_nil) ?_
  refine SWl.rdg rfl rfl (rfl) rfl rfl (Rd.nei rfl rfl) ?_
  refine SWl.rd rfl (Rd.pickN rfl (rfl) rfl) ?_
  refine SWl.nil ?_
  refine SN.then ?_
  refine SW.condT rfl (by simp [he]) ?_
  refine SW.retL (fun _ _ h => h) ?_
  refine RL.fin (()) [0, 1, 2, 3] (Rs.le (Rs.none rfl) ?_) (by decide) ⟨⟨_, rfl, LeAll.refl _⟩, ⟨⟨_, rfl, LeAll.refl _⟩, ⟨⟨_, rfl, LeAll.refl _⟩, ⟨⟨_, rfl, LeAll.refl _⟩, trivial⟩⟩⟩⟩
  exact Le.refl _
theorem con_valueString (gr gp gl gn : Nat) (b : List UInt8) (hb : b.length ≤ 1000000) (lim : Int) (hl : 0 ≤ lim) (s : Int × Nat) (r : RT) (hs : RRel b s r) : ConR Tryd.prog 89 [.c gr [iD s.1, boolD true, bD b, iD ((s.2 : Nat) : Int)], .c gp [isD (.pointer (some ⟨gr, 0, none⟩))], .c gl [iD lim], .c gn [strD []]] [isD (.pointer (some ⟨gr, 0, none⟩)), isD (.func (.func 93) #[] #[.pointer (some ⟨gp, 0, none⟩), .pointer (some ⟨gl, 0, none⟩), .pointer (some ⟨gn, 0, none⟩)])] (fun t : RdS b (stP lim r).2 => [.c gr [iD t.1.1, boolD true, bD b, iD ((t.1.2 : Nat) : Int)], .c gp [isD (.pointer (some ⟨gr, 0, none⟩))], .c gl [iD lim], .c gn [strD (stP lim r).1]]) (fun _ => isD (.tuple #[])) := by
  obtain ⟨e, k⟩ := s
  obtain ⟨p, e'⟩ := r
  obtain ⟨h1, h2, h3⟩ := hs
  dsimp only at h1 h2 h3
  subst h1
  by_cases he : e = 0
  · subst he
    obtain rfl := h3 rfl
    rcases hr : (rdP lim) (b.drop k) with E | ⟨n, m⟩
    · rw [show stP lim ⟨b.drop k, 0⟩ = _ from stG_bad rfl hr]
      exact (con_valueString_bad gr gp gl gn b k hb lim hl E hr).map (fun _ => ⟨(E, k), RRel.bad h2 (rdP_ne hr)⟩) (fun _ => rfl) (fun _ => rfl)
    · rw [show stP lim ⟨b.drop k, 0⟩ = _ from stG_ok rfl hr]
      exact (con_valueString_ok gr gp gl gn b k hb lim hl n m hr).map (fun _ => ⟨(0, k + m), RRel.good (rdP_in h2 hr)⟩) (fun _ => rfl) (fun _ => rfl)
  · rw [show stP lim ⟨p, e⟩ = _ from stG_skip he]
    exact (con_valueString_skip gr gp gl gn b k hb lim hl e he).map (fun _ => ⟨(e, k), rfl, h2, h3⟩) (fun _ => rfl) (fun _ => rfl)
set_option maxHeartbeats 4000000 in
set_option maxRecDepth 100000 in
theorem con_rString (gr : Nat) (b : List UInt8) (hb : b.length ≤ 1000000) (lim : Int) (hl : 0 ≤ lim) (s : Int × Nat) (r : RT) (hs : RRel b s r) : ConR Tryd.prog 49 [.c gr [iD s.1, boolD true, bD b, iD ((s.2 : Nat) : Int)]] [isD (.pointer (some ⟨gr, 0, none⟩)), iD lim] (fun t : RdS b (stP lim r).2 => [.c gr [iD t.1.1, boolD true, bD b, iD ((t.1.2 : Nat) : Int)]]) (fun t : RdS b (stP lim r).2 => strD (stP lim r).1) := by
  refine con_ofR Tryd.func49 (by kernel_rfl) rfl (by kernel_rfl) fun base w0 => ?_
  refine SW.seq ?_
  refine SW.region ?_
  refine SWl.ef (S := []) (Ef.boxV rfl (fun _ _ _ h => one_cells (One.h _ _ _ h)) rfl) ?_
  rintro _ ⟨g2, rfl⟩
  refine SWl.ef (S := []) (Ef.boxV rfl (fun _ _ _ h => one_cells (One.h _ _ _ h)) rfl) ?_
  rintro _ ⟨g3, rfl⟩
  refine SWl.rd rfl (Rd.assign rfl) ?_
  refine SWl.nil ?_
  refine SN.then ?_
  refine SW.seq ?_
  refine SW.region ?_
  refine SWl.ef (S := []) (Ef.alloc (zs := [.string ⟨#[]⟩]) (by kernel_rfl) rfl) ?_
  rintro _ ⟨g5, rfl⟩
  refine SWl.ef (S := [_]) (Ef.storeV 3 rfl rfl rfl (by kernel_rfl) rfl (List.mem_singleton.2 rfl)) ?_
  rintro _ rfl
  refine SWl.nil ?_
  refine SN.then ?_
  refine SW.seq ?_
  refine SW.region ?_
  refine SWl.rd rfl (Rd.loadB 1 rfl rfl rfl (by kernel_rfl) ap_nil) ?_
  refine SWl.rd rfl (Rd.makeFunc [.pointer (some ⟨g2, 0, none⟩), .pointer (some ⟨g3, 0, none⟩), .pointer (some ⟨g5, 0, none⟩)] rfl) ?_
  refine SWl.ef (Ef.callR [0, 1, 2, 3] (con_valueString gr g2 g3 g5 b hb lim hl s r hs) rfl ⟨Le.refl _, Le.refl _, trivial⟩ (by decide) ⟨⟨_, rfl, LeAll.refl _⟩, ⟨⟨_, rfl, LeAll.refl _⟩, ⟨⟨_, rfl, LeAll.refl _⟩, ⟨⟨_, rfl, LeAll.refl _⟩, trivial⟩⟩⟩⟩ (fun _ h => h) rfl) ?_
  rintro _ ⟨t8, rfl⟩
  refine SWl.nil ?_
  refine SN.then ?_
  refine SW.seq ?_
  refine SW.region ?_
  refine SWl.rd rfl (Rd.loadB 3 rfl rfl rfl (by kernel_rfl) ap_nil) ?_
  refine SWl.rd rfl (Rd.assign rfl) ?_
  refine SWl.nil ?_
  refine SN.then ?_
  refine SW.retR (fn := Tryd.f49) (t8) [0] (fun _ _ h => h) (Rs.one rfl (ResV.tmp rfl)) (by decide) ⟨⟨_, rfl, LeAll.refl _⟩, trivial⟩
set_option maxHeartbeats 4000000 in
set_option maxRecDepth 100000 in
theorem con_valueBytes_ok (gr gp gl gn : Nat) (b : List UInt8) (k : Nat) (hb : b.length ≤ 1000000) (lim : Int) (hl : 0 ≤ lim) (q : List UInt8) (m : Nat) (h : (rdP lim) (b.drop k) = .ok (q, m)) : ConR Tryd.prog 89 [.c gr [iD 0, boolD true, bD b, iD ((k : Nat) : Int)], .c gp [isD (.pointer (some ⟨gr, 0, none⟩))], .c gl [iD lim], .c gn [isD (.slice none 0 0)]] [isD (.pointer (some ⟨gr, 0, none⟩)), isD (.func (.func 97) #[] #[.pointer (some ⟨gn, 0, none⟩), .pointer (some ⟨gp, 0, none⟩), .pointer (some ⟨gl, 0, none⟩)])] (fun t : Ust => [.c gr [iD 0, boolD true, bD b, iD ((k + m : Nat) : Int)], .c gp [isD (.pointer (some ⟨gr, 0, none⟩))], .c gl [iD lim], .c gn [isD (.slice t.A (q).length t.c)], .r t.F (vecT 5 1 encB t.A t.c (q))]) (fun t : Ust => isD (.tuple #[])) := by
  refine con_ofRD Tryd.func89 (by kernel_rfl) rfl (by kernel_rfl) fun base w0 => ?_
  refine SW.seq ?_
  refine SW.region ?_
  refine SWl.ef (S := []) (Ef.boxV rfl (fun _ _ _ h => one_cells (One.h _ _ _ h)) rfl) ?_
  rintro _ ⟨g2, rfl⟩
  refine SWl.nil ?_
  refine SN.then ?_
  refine SW.seq ?_
  refine SW.seq ?_
  refine SW.region ?_
  refine SWl.rd rfl (Rd.loadB 4 rfl rfl rfl (by kernel_rfl) ap_nil) ?_
  refine SWl.ef (S := []) (Ef.callN [0] (con_rvalid b k 0) rfl ⟨(sees_box 0 rfl (by decide) ⟨(sees_le (Le.refl _)), (sees_le (Le.refl _)), (sees_le (Le.refl _)), (sees_le (Le.refl _)), trivial⟩), trivial⟩ rfl) ?_
  rintro _ rfl
  refine SWl.rd rfl (Rd.not rfl) ?_
  refine SWl.rd rfl (Rd.move rfl) ?_
  refine SWl.rdg rfl rfl (rfl) rfl rfl (Rd.loadB 4 rfl rfl rfl (by kernel_rfl) ap_nil) ?_
  refine SWl.rdg rfl rfl (rfl) rfl rfl (Rd.nilCheck rfl) ?_
  refine SWl.rdg rfl rfl (rfl) rfl rfl (Rd.fieldAddr (n := 0) rfl (by kernel_rfl)) ?_
  refine SWl.rdg rfl rfl (rfl) rfl rfl (Rd.fieldAddr (n := 0) rfl (by kernel_rfl)) ?_
  refine SWl.rdg rfl rfl (rfl) rfl rfl (Rd.loadB 0 rfl rfl rfl (by kernel_rfl) ap_nil) ?_
  refine SWl.rdg rfl rfl (rfl) rfl rfl (Rd.nei rfl rfl) ?_
  refine SWl.rd rfl (Rd.pickN rfl (rfl) rfl) ?_
  refine SWl.nil ?_
  refine SN.then ?_
  refine SW.condF rfl (by decide) ?_
  refine SW.skip ?_
  refine SN.then ?_
  refine SW.seq ?_
  refine SW.region ?_
  refine SWl.rd rfl (Rd.loadB 4 rfl rfl rfl (by kernel_rfl) ap_nil) ?_
  refine SWl.rd rfl (Rd.nilCheck rfl) ?_
  refine SWl.rd rfl (Rd.fieldAddr (n := 3) rfl (by kernel_rfl)) ?_
  refine SWl.rd rfl (Rd.loadB 0 rfl rfl rfl (by kernel_rfl) ap_nil) ?_
  refine SWl.ef (S := []) (Ef.alloc (zs := [.int .i64 0]) (by kernel_rfl) rfl) ?_
  rintro _ ⟨g4, rfl⟩
  refine SWl.ef (S := [_]) (Ef.storeV 5 rfl rfl rfl (by kernel_rfl) rfl (List.mem_singleton.2 rfl)) ?_
  rintro _ rfl
  refine SWl.nil ?_
  refine SN.then ?_
  refine SW.seq ?_
  refine SW.region ?_
  refine SWl.rd rfl (Rd.makeFunc [.pointer (some ⟨g4, 0, none⟩), .pointer (some ⟨g2, 0, none⟩)] rfl) ?_
  refine SWl.defer (cap := [.pointer (some ⟨g4, 0, none⟩), .pointer (some ⟨g2, 0, none⟩)]) rfl ?_
  refine SWl.nil ?_
  refine SN.then ?_
  refine SW.region ?_
  refine SWl.rd rfl (Rd.move rfl) ?_
  refine SWl.ef (Ef.callVR (cap := [.pointer (some ⟨gn, 0, none⟩), .pointer (some ⟨gp, 0, none⟩), .pointer (some ⟨gl, 0, none⟩)]) [0, 1, 2, 3] (con_clBytes gr gp gl gn b k hb lim hl q m h) rfl rfl ⟨Le.refl _, Le.refl _, Le.refl _, trivial⟩ (by decide) ⟨⟨_, rfl, LeAll.refl _⟩, ⟨⟨_, rfl, LeAll.refl _⟩, ⟨⟨_, rfl, LeAll.refl _⟩, ⟨⟨_, rfl, LeAll.refl _⟩, trivial⟩⟩⟩⟩ (fun _ h => h) rfl) ?_
  rintro _ ⟨t, rfl⟩
  refine SWl.nil ?_
  refine SN.retL ?_
  refine RL.defer (cap := [.pointer (some ⟨g4, 0, none⟩), .pointer (some ⟨g2, 0, none⟩)]) [] (by simp) (con_vd_ret g4 g2) (by decide) trivial ?_
  refine RL.fin (t) [2, 3, 4, 5, 6] (Rs.le (Rs.none rfl) ?_) (by decide) ⟨⟨_, rfl, LeAll.refl _⟩, ⟨⟨_, rfl, LeAll.refl _⟩, ⟨⟨_, rfl, LeAll.refl _⟩, ⟨⟨_, rfl, LeAll.refl _⟩, ⟨⟨_, rfl, LeR.refl _⟩, trivial⟩⟩⟩⟩⟩
  exact Le.refl _
set_option maxHeartbeats 4000000 in
set_option maxRecDepth 100000 in
theorem con_valueBytes_bad (gr gp gl gn : Nat) (b : List UInt8) (k : Nat) (hb : b.length ≤ 1000000) (lim : Int) (hl : 0 ≤ lim) (E : Int) (h : (rdP lim) (b.drop k) = .error E) : ConR Tryd.prog 89 [.c gr [iD 0, boolD true, bD b, iD ((k : Nat) : Int)], .c gp [isD (.pointer (some ⟨gr, 0, none⟩))], .c gl [iD lim], .c gn [isD (.slice none 0 0)]] [isD (.pointer (some ⟨gr, 0, none⟩)), isD (.func (.func 97) #[] #[.pointer (some ⟨gn, 0, none⟩), .pointer (some ⟨gp, 0, none⟩), .pointer (some ⟨gl, 0, none⟩)])] (fun _ : Unit => [.c gr [iD E, boolD true, bD b, iD ((k : Nat) : Int)], .c gp [isD (.pointer (some ⟨gr, 0, none⟩))], .c gl [iD lim], .c gn [isD (.slice none 0 0)], .r [] (vecT 5 1 encB none 0 [])]) (fun _ : Unit => isD (.tuple #[])) := by
  refine con_ofRD Tryd.func89 (by kernel_rfl) rfl (by kernel_rfl) fun base w0 => ?_
  refine SW.seq ?_
  refine SW.vecN 5 1 encB ?_
  refine SW.region ?_
  refine SWl.ef (S := []) (Ef.boxV rfl (fun _ _ _ h => one_cells (One.h _ _ _ h)) rfl) ?_
  rintro _ ⟨g2, rfl⟩
  refine SWl.nil ?_
  refine SN.then ?_
  refine SW.seq ?_
  refine SW.seq ?_
  refine SW.region ?_
  refine SWl.rd rfl (Rd.loadB 5 rfl rfl rfl (by kernel_rfl) ap_nil) ?_
  refine SWl.ef (S := []) (Ef.callN [0] (con_rvalid b k 0) rfl ⟨(sees_box 0 rfl (by decide) ⟨(sees_le (Le.refl _)), (sees_le (Le.refl _)), (sees_le (Le.refl _)), (sees_le (Le.refl _)), trivial⟩), trivial⟩ rfl) ?_
  rintro _ rfl
  refine SWl.rd rfl (Rd.not rfl) ?_
  refine SWl.rd rfl (Rd.move rfl) ?_
  refine SWl.rdg rfl rfl (rfl) rfl rfl (Rd.loadB 5 rfl rfl rfl (by kernel_rfl) ap_nil) ?_
  refine SWl.rdg rfl rfl (rfl) rfl rfl (Rd.nilCheck rfl) ?_
  refine SWl.rdg rfl rfl (rfl) rfl rfl (Rd.fieldAddr (n := 0) rfl (by kernel_rfl)) ?_
  refine SWl.rdg rfl rfl (rfl) rfl rfl (Rd.fieldAddr (n := 0) rfl (by kernel_rfl)) ?_
  refine SWl.rdg rfl rfl (rfl) rfl rfl (Rd.loadB 0 rfl rfl rfl (by kernel_rfl) ap_nil) ?_
  refine SWl.rdg rfl rfl (rfl) rfl rfl (Rd.nei rfl rfl) ?_
  refine SWl.rd rfl (Rd.pickN rfl (rfl) rfl) ?_
  refine SWl.nil ?_
  refine SN.then ?_
  refine SW.condF rfl (by decide) ?_
  refine SW.skip ?_
  refine SN.then ?_
  refine SW.seq ?_
  refine SW.region ?_
  refine SWl.rd rfl (Rd.loadB 5 rfl rfl rfl (by kernel_rfl) ap_nil) ?_
  refine SWl.rd rfl (Rd.nilCheck rfl) ?_
  refine SWl.rd rfl (Rd.fieldAddr (n := 3) rfl (by kernel_rfl)) ?_
  refine SWl.rd rfl (Rd.loadB 0 rfl rfl rfl (by kernel_rfl) ap_nil) ?_
  refine SWl.ef (S := []) (Ef.alloc (zs := [.int .i64 0]) (by kernel_rfl) rfl) ?_
  rintro _ ⟨g4, rfl⟩
  refine SWl.ef (S := [_]) (Ef.storeV 6 rfl rfl rfl (by kernel_rfl) rfl (List.mem_singleton.2 rfl)) ?_
  rintro _ rfl
  refine SWl.nil ?_
  refine SN.then ?_
  refine SW.seq ?_
  refine SW.region ?_
  refine SWl.rd rfl (Rd.makeFunc [.pointer (some ⟨g4, 0, none⟩), .pointer (some ⟨g2, 0, none⟩)] rfl) ?_
  refine SWl.defer (cap := [.pointer (some ⟨g4, 0, none⟩), .pointer (some ⟨g2, 0, none⟩)]) rfl ?_
  refine SWl.nil ?_
  refine SN.then ?_
  refine SW.region ?_
  refine SWl.rd rfl (Rd.move rfl) ?_
  refine SWl.callPRV (cap := [.pointer (some ⟨gn, 0, none⟩), .pointer (some ⟨gp, 0, none⟩), .pointer (some ⟨gl, 0, none⟩)]) [0, 1, 2, 3] (con_clBytes_bad gr gp gl gn b k hb lim hl E h) rfl rfl ⟨Le.refl _, Le.refl _, Le.refl _, trivial⟩ (by decide) ⟨⟨_, rfl, LeAll.refl _⟩, ⟨⟨_, rfl, LeAll.refl _⟩, ⟨⟨_, rfl, LeAll.refl _⟩, ⟨⟨_, rfl, LeAll.refl _⟩, trivial⟩⟩⟩⟩ ?_
  intro q
  repeat (first | refine SP.then ?_ | refine SP.block ?_)
  refine SP.retL ?_
  refine RL.defer (cap := [.pointer (some ⟨g4, 0, none⟩), .pointer (some ⟨g2, 0, none⟩)]) [2, 1, 3] (by simp) (con_vd_pan g4 g2 gr b k q E) (by decide) ⟨⟨_, rfl, LeAll.refl _⟩, ⟨_, rfl, LeAll.refl _⟩, ⟨_, rfl, LeAll.refl _⟩, trivial⟩ ?_
  refine RL.fin (()) [6, 1, 2, 3, 0] (Rs.le (Rs.none rfl) ?_) (by decide) ⟨⟨_, rfl, LeAll.refl _⟩, ⟨⟨_, rfl, LeAll.refl _⟩, ⟨⟨_, rfl, LeAll.refl _⟩, ⟨⟨_, rfl, LeAll.refl _⟩, ⟨⟨_, rfl, LeR.refl _⟩, trivial⟩⟩⟩⟩⟩
  exact Le.refl _
set_option maxHeartbeats 4000000 in
set_option maxRecDepth 100000 in
theorem con_valueBytes_skip (gr gp gl gn : Nat) (b : List UInt8) (k : Nat) (hb : b.length ≤ 1000000) (lim : Int) (hl : 0 ≤ lim) (e : Int) (he : e ≠ 0) : ConR Tryd.prog 89 [.c gr [iD e, boolD true, bD b, iD ((k : Nat) : Int)], .c gp [isD (.pointer (some ⟨gr, 0, none⟩))], .c gl [iD lim], .c gn [isD (.slice none 0 0)]] [isD (.pointer (some ⟨gr, 0, none⟩)), isD (.func (.func 97) #[] #[.pointer (some ⟨gn, 0, none⟩), .pointer (some ⟨gp, 0, none⟩), .pointer (some ⟨gl, 0, none⟩)])] (fun _ : Unit => [.c gr [iD e, boolD true, bD b, iD ((k : Nat) : Int)], .c gp [isD (.pointer (some ⟨gr, 0, none⟩))], .c gl [iD lim], .c gn [isD (.slice none 0 0)], .r [] (vecT 5 1 encB none 0 [])]) (fun _ : Unit => isD (.tuple #[])) := by
  refine con_ofRD Tryd.func89 (by kernel_rfl) rfl (by kernel_rfl) fun base w0 => ?_
  refine SW.seq ?_
  refine SW.vecN 5 1 encB ?_
  refine SW.region ?_
  refine SWl.ef (S := []) (Ef.boxV rfl (fun _ _ _ h => one_cells (One.h _ _ _ h)) rfl) ?_
  rintro _ ⟨g2, rfl⟩
  refine SWl.nil ?_
  refine SN.then ?_
  refine SW.seq ?_
  refine SW.seq ?_
  refine SW.region ?_
  refine SWl.rd rfl (Rd.loadB 5 rfl rfl rfl (by kernel_rfl) ap_nil) ?_
  refine SWl.ef (S := []) (Ef.callN [0] (con_rvalid b k e) rfl ⟨(sees_box 0 rfl (by decide) ⟨(sees_le (Le.refl _)), (sees_le (Le.refl _)), (sees_le (Le.refl _)), (sees_le (Le.refl _)), trivial⟩), trivial⟩ rfl) ?_
  rintro _ rfl
  refine SWl.rd rfl (Rd.not rfl) ?_
  refine SWl.rd rfl (Rd.move rfl) ?_
  refine SWl.rdg rfl rfl (rfl) rfl rfl (Rd.loadB 5 rfl rfl rfl (by kernel_rfl) ap_nil) ?_
  refine SWl.rdg rfl rfl (rfl) rfl rfl (Rd.nilCheck rfl) ?_
  refine SWl.rdg rfl rfl (rfl) rfl rfl (Rd.fieldAddr (n := 0) rfl (by kernel_rfl)) ?_
  refine SWl.rdg rfl rfl (rfl) rfl rfl (Rd.fieldAddr (n := 0) rfl (by kernel_rfl)) ?_
  refine SWl.rdg rfl rfl (rfl) rfl rfl (Rd.loadB 0 rfl rfl rfl (by kernel_rfl) ap_nil) ?_
  refine SWl.rdg rfl rfl (rfl) rfl rfl (Rd.nei rfl rfl) ?_
  refine SWl.rd rfl (Rd.pickN rfl (rfl) rfl) ?_
  refine SWl.nil ?_
  refine SN.then ?_
  refine SW.condT rfl (by simp [he]) ?_
  refine SW.retL (fun _ _ h => h) ?_
  refine RL.fin (()) [0, 1, 2, 3, 4] (Rs.le (Rs.none rfl) ?_) (by decide) ⟨⟨_, rfl, LeAll.refl _⟩, ⟨⟨_, rfl, LeAll.refl _⟩, ⟨⟨_, rfl, LeAll.refl _⟩, ⟨⟨_, rfl, LeAll.refl _⟩, ⟨⟨_, rfl, LeR.refl _⟩, trivial⟩⟩⟩⟩⟩
  exact Le.refl _
theorem con_valueBytes (gr gp gl gn : Nat) (b : List UInt8) (hb : b.length ≤ 1000000) (lim : Int) (hl : 0 ≤ lim) (s : Int × Nat) (r : RT) (hs : RRel b s r) : ConR Tryd.prog 89 [.c gr [iD s.1, boolD true, bD b, iD ((s.2 : Nat) : Int)], .c gp [isD (.pointer (some ⟨gr, 0, none⟩))], .c gl [iD lim], .c gn [isD (.slice none 0 0)]] [isD (.pointer (some ⟨gr, 0, none⟩)), isD (.func (.func 97) #[] #[.pointer (some ⟨gn, 0, none⟩), .pointer (some ⟨gp, 0, none⟩), .pointer (some ⟨gl, 0, none⟩)])] (fun t : RdS b (stP lim r).2 × Ust => [.c gr [iD t.1.1.1, boolD true, bD b, iD ((t.1.1.2 : Nat) : Int)], .c gp [isD (.pointer (some ⟨gr, 0, none⟩))], .c gl [iD lim], .c gn [isD (.slice t.2.A ((stP lim r).1).length t.2.c)], .r t.2.F (vecT 5 1 encB t.2.A t.2.c ((stP lim r).1))]) (fun _ => isD (.tuple #[])) := by
  obtain ⟨e, k⟩ := s
  obtain ⟨p, e'⟩ := r
  obtain ⟨h1, h2, h3⟩ := hs
  dsimp only at h1 h2 h3
  subst h1
  by_cases he : e = 0
  · subst he
    obtain rfl := h3 rfl
    rcases hr : (rdP lim) (b.drop k) with E | ⟨n, m⟩
    · rw [show stP lim ⟨b.drop k, 0⟩ = _ from stG_bad rfl hr]
      exact (con_valueBytes_bad gr gp gl gn b k hb lim hl E hr).map (fun u => (⟨(E, k), RRel.bad h2 (rdP_ne hr)⟩, ⟨none, 0, []⟩)) (fun _ => rfl) (fun _ => rfl)
    · rw [show stP lim ⟨b.drop k, 0⟩ = _ from stG_ok rfl hr]
      exact (con_valueBytes_ok gr gp gl gn b k hb lim hl n m hr).map (fun u => (⟨(0, k + m), RRel.good (rdP_in h2 hr)⟩, u)) (fun _ => rfl) (fun _ => rfl)
  · rw [show stP lim ⟨p, e⟩ = _ from stG_skip he]
    exact (con_valueBytes_skip gr gp gl gn b k hb lim hl e he).map (fun u => (⟨(e, k), rfl, h2, h3⟩, ⟨none, 0, []⟩)) (fun _ => rfl) (fun _ => rfl)
set_option maxHeartbeats 4000000 in
set_option maxRecDepth 100000 in
theorem con_rBytes (gr : Nat) (b : List UInt8) (hb : b.length ≤ 1000000) (lim : Int) (hl : 0 ≤ lim) (s : Int × Nat) (r : RT) (hs : RRel b s r) : ConR Tryd.prog 51 [.c gr [iD s.1, boolD true, bD b, iD ((s.2 : Nat) : Int)]] [isD (.pointer (some ⟨gr, 0, none⟩)), iD lim] (fun t : RdS b (stP lim r).2 => [.c gr [iD t.1.1, boolD true, bD b, iD ((t.1.2 : Nat) : Int)]]) (fun t : RdS b (stP lim r).2 => bD (stP lim r).1) := by
  refine con_ofR Tryd.func51 (by kernel_rfl) rfl (by kernel_rfl) fun base w0 => ?_
  refine SW.seq ?_
  refine SW.region ?_
  refine SWl.ef (S := []) (Ef.boxV rfl (fun _ _ _ h => one_cells (One.h _ _ _ h)) rfl) ?_
  rintro _ ⟨g2, rfl⟩
  refine SWl.ef (S := []) (Ef.boxV rfl (fun _ _ _ h => one_cells (One.h _ _ _ h)) rfl) ?_
  rintro _ ⟨g3, rfl⟩
  refine SWl.rd rfl (Rd.assign rfl) ?_
  refine SWl.nil ?_
  refine SN.then ?_
  refine SW.seq ?_
  refine SW.region ?_
  refine SWl.ef (S := []) (Ef.alloc (zs := [.slice none 0 0]) (by kernel_rfl) rfl) ?_
  rintro _ ⟨g5, rfl⟩
  refine SWl.nil ?_
  refine SN.then ?_
  refine SW.seq ?_
  refine SW.region ?_
  refine SWl.rd rfl (Rd.loadB 1 rfl rfl rfl (by kernel_rfl) ap_nil) ?_
  refine SWl.rd rfl (Rd.makeFunc [.pointer (some ⟨g5, 0, none⟩), .pointer (some ⟨g2, 0, none⟩), .pointer (some ⟨g3, 0, none⟩)] rfl) ?_
  refine SWl.ef (Ef.callR [0, 1, 2, 3] (con_valueBytes gr g2 g3 g5 b hb lim hl s r hs) rfl ⟨Le.refl _, Le.refl _, trivial⟩ (by decide) ⟨⟨_, rfl, LeAll.refl _⟩, ⟨⟨_, rfl, LeAll.refl _⟩, ⟨⟨_, rfl, LeAll.refl _⟩, ⟨⟨_, rfl, LeAll.refl _⟩, trivial⟩⟩⟩⟩ (fun _ h => h) rfl) ?_
  rintro _ ⟨t8, rfl⟩
  refine SWl.nil ?_
  refine SN.then ?_
  refine SW.seq ?_
  refine SW.region ?_
  refine SWl.rd rfl (Rd.loadB 3 rfl rfl rfl (by kernel_rfl) ap_nil) ?_
  refine SWl.rd rfl (Rd.assign rfl) ?_
  refine SWl.nil ?_
  refine SN.then ?_
  refine SW.freezeT 4 4 rfl rfl (le_ls_b _) ?_
  refine SW.retR (fn := Tryd.f51) (t8.1) [0] (fun _ _ h => h) (Rs.one rfl (ResV.tmp rfl)) (by decide) ⟨⟨_, rfl, LeAll.refl _⟩, trivial⟩
end Sx
end Go.Proofs.YtchbgfgboogniaaDoor
namespace Go.Proofs.YtchbgfgboogniaaDoor
open Go.RowKit
namespace Sx
theorem bldRd {b : List UInt8} : Bld Tryd.prog 142 [1, 2] [boolD true, bD b] [iD 0, boolD true, bD b, iD ((0 : Nat) : Int)] := fun L w vs hv => by
  obtain ⟨u, v, rfl, hu, h3⟩ := all2 hv
  cases hu
  have h3' := h3
  obtain ⟨A, cp, rfl, -⟩ := h3
  exact ⟨[.int .i64 0, .bool true, .slice A _ cp, .int .i64 0], ⟨rfl, rfl, h3', rfl, trivial⟩, fun w' => by kernel_rfl⟩
def endE (r : RT) : Int := if r.e = 0 ∧ r.p ≠ [] then 5 else r.e
theorem endE_long {b : List UInt8} {s : Int × Nat} {r : RT} (hs : RRel b s r) (h0 : s.1 = 0) (h : s.2 < b.length) : endE r = 5 := by
  obtain ⟨h1, h2, h3⟩ := hs
  have he : r.e = 0 := by rw [← h1]; exact h0
  unfold endE
  rw [if_pos ⟨he, fun hp => by rw [h3 he] at hp; have := congrArg List.length hp; rw [List.length_drop] at this; simp at this; omega⟩]
theorem endE_else {b : List UInt8} {s : Int × Nat} {r : RT} (hs : RRel b s r) (h : ¬ (s.1 = 0 ∧ s.2 < b.length)) : endE r = s.1 := by
  obtain ⟨h1, h2, h3⟩ := hs
  unfold endE
  rw [if_neg (fun hp => h ⟨by rw [h1]; exact hp.1, ?_⟩), h1]
  rcases Nat.lt_or_ge s.2 b.length with h' | h'
  · exact h'
  · exact absurd (by rw [h3 hp.1]; exact List.drop_eq_nil_of_le h') hp.2
theorem rem128_u8 {c : UInt8} : (c.toNat : Int).tmod 128 = ((c.toNat % 128 : Nat) : Int) := rem128_w
theorem shr_max {i : Nat} (h : i = 8) : (9223372036854775807 : Int) / 2 ^ (min (7 * i) IntKind.u64.bits) = 127 := by subst h; rfl
set_option maxHeartbeats 4000000 in
set_option maxRecDepth 100000 in
theorem con_read (b : List UInt8) (hb : b.length ≤ 1000000) : ConR Tryd.prog 46 [] [bD b] (fun g : Nat => [.c g [iD 0, boolD true, bD b, iD ((0 : Nat) : Int)]]) (fun g : Nat => isD (.pointer (some ⟨g, 0, none⟩))) := by
  refine con_ofR Tryd.func46 (by kernel_rfl) rfl (by kernel_rfl) fun base w0 => ?_
  refine SW.seq ?_
  refine SW.region ?_
  refine SWl.rd rfl (Rd.assign rfl) ?_
  refine SWl.nil ?_
  refine SN.then ?_
  refine SW.seq ?_
  refine SW.vecN 5 1 encB ?_
  refine SW.region ?_
  refine SWl.rd rfl (Rd.move rfl) ?_
  refine SWl.ef (Ef.appT 0 1 1 rfl rfl (SrcT.b rfl) (by kernel_rfl) (by kernel_rfl) (by simp <;> omega) (by decide) (fun _ h => h) rfl) ?_
  rintro _ ⟨A4, F4, c4, rfl⟩
  refine SWl.freezeT 0 4 rfl rfl (le_ls_b _) ?_
  refine SWl.rd rfl (Rd.build rfl rfl bldRd) ?_
  refine SWl.ef (S := []) (Ef.boxA rfl rfl) ?_
  rintro _ ⟨g6, rfl⟩
  refine SWl.rd rfl (Rd.assign rfl) ?_
  refine SWl.nil ?_
  refine SN.then ?_
  refine SW.retR (fn := Tryd.f46) (g6) [0] (fun _ _ h => h) (Rs.one rfl (ResV.tmp rfl)) (by decide) ⟨⟨_, rfl, LeAll.refl _⟩, trivial⟩
set_option maxHeartbeats 4000000 in
set_option maxRecDepth 100000 in
theorem con_rEnd (b : List UInt8) (s : Int × Nat) (r : RT) (hs : RRel b s r) : ConN Tryd.prog 52 [paD [iD s.1, boolD true, bD b, iD ((s.2 : Nat) : Int)]] (iD (endE r)) := by
  refine con_ofN Tryd.func52 (by kernel_rfl) rfl (by kernel_rfl) fun base w0 => ?_
  refine SW.seq ?_
  refine SW.region ?_
  refine SWl.rd rfl (Rd.assign rfl) ?_
  refine SWl.nil ?_
  refine SN.then ?_
  refine SW.seq ?_
  refine SW.seq ?_
  refine SW.region ?_
  refine SWl.rd rfl (Rd.move rfl) ?_
  refine SWl.ef (S := []) (Ef.callN [] (con_rvalid b s.2 s.1) rfl ⟨(sees_le (Le.refl _)), trivial⟩ rfl) ?_
  rintro _ rfl
  refine SWl.rd rfl (Rd.not rfl) ?_
  refine SWl.nil ?_
  refine SN.then ?_
  refine SW.condF rfl (rfl) ?_
  refine SW.skip ?_
  refine SN.then ?_
  refine SW.seq ?_
  refine SW.seq ?_
  refine SW.draw [] (.r 0 (.r 1 (.r 2 (.r 3 (.r 4 (.r 5 (.r 6 (.r 7 (.r 8 (.r 9 (.r 10 (.r 11 (.r 12 (.r 13 (.r 14 (.r 15 (.r 16 (.r 17 .fin)))))))))))))))))) (by kernel_rfl) (by kernel_rfl) (fun d _ _ _ _ h => by cases d <;> exact h) ?_
  refine SWz.rd (i := 0) rfl rfl (Rd.move rfl) ?_
  refine SWz.rd (i := 1) rfl rfl (Rd.nilCheckP rfl) ?_
  refine SWz.rd (i := 2) rfl rfl (Rd.fieldR (n := 0) rfl (by kernel_rfl) (show 0 < 4 by decide)) ?_
  refine SWz.rd (i := 3) rfl rfl (Rd.fieldR (n := 0) rfl (by kernel_rfl) (show 0 < 4 by decide)) ?_
  refine SWz.rd (i := 4) rfl rfl (Rd.loadR rfl rfl (by kernel_rfl) (by simp)) ?_
  refine SWz.rd (i := 5) rfl rfl (Rd.eqi rfl rfl) ?_
  refine SWz.rd (i := 6) rfl rfl (Rd.move rfl) ?_
  refine SWz.split 12 rfl (fun hb12 => ?_) (fun hb12 => ?_)
  · have h12 : s.1 = 0 := of_decide_eq_true hb12
    refine SWz.rdg (i := 7) rfl rfl rfl (hb12) rfl rfl (Rd.move rfl) ?_
    refine SWz.rdg (i := 8) rfl rfl rfl (hb12) rfl rfl (Rd.nilCheckP rfl) ?_
    refine SWz.rdg (i := 9) rfl rfl rfl (hb12) rfl rfl (Rd.fieldR (n := 3) rfl (by kernel_rfl) (show 3 < 4 by decide)) ?_
    refine SWz.rdg (i := 10) rfl rfl rfl (hb12) rfl rfl (Rd.loadR rfl rfl (by kernel_rfl) (by simp)) ?_
    refine SWz.rdg (i := 11) rfl rfl rfl (hb12) rfl rfl (Rd.move rfl) ?_
    refine SWz.rdg (i := 12) rfl rfl rfl (hb12) rfl rfl (Rd.nilCheckP rfl) ?_
    refine SWz.rdg (i := 13) rfl rfl rfl (hb12) rfl rfl (Rd.fieldR (n := 2) rfl (by kernel_rfl) (show 2 < 4 by decide)) ?_
    refine SWz.rdg (i := 14) rfl rfl rfl (hb12) rfl rfl (Rd.loadR rfl rfl (by kernel_rfl) (by simp)) ?_
    refine SWz.rdg (i := 15) rfl rfl rfl (hb12) rfl rfl (Rd.len (e := 5) rfl (by kernel_rfl)) ?_
    refine SWz.rdg (i := 16) rfl rfl rfl (hb12) rfl rfl (Rd.lss rfl rfl) ?_
    refine SWz.rd (i := 17) rfl rfl (Rd.pickY rfl (hb12) rfl) ?_
    refine SWz.nil ?_
    refine SN.then ?_
    refine SW.cond rfl (fun hb23 => ?_) (fun hb23 => ?_)
    · have h23 : s.2 < b.length := by have h := of_decide_eq_true hb23; rw [cellsOf_length] at h; omega
      refine SW.seq ?_
      refine SW.region ?_
      refine SWl.rd rfl (Rd.assign rfl) ?_
      refine SWl.nil ?_
      refine SN.then ?_
      refine SW.ret (fn := Tryd.f52) (fun _ _ h => h) (Rs.le (Rs.one rfl (ResV.tmp rfl)) ?_)
      exact Le.trans (Le.is (by rw [endE_long hs h12 h23])) le_nw_is
    · have h23 : ¬ s.2 < b.length := by have h := of_decide_eq_false hb23; rw [cellsOf_length] at h; omega
      refine SW.skip ?_
      refine SN.then ?_
      refine SW.seq ?_
      refine SW.region ?_
      refine SWl.rd rfl (Rd.move rfl) ?_
      refine SWl.rd rfl (Rd.nilCheckP rfl) ?_
      refine SWl.rd rfl (Rd.fieldR (n := 0) rfl (by kernel_rfl) (show 0 < 4 by decide)) ?_
      refine SWl.rd rfl (Rd.fieldR (n := 0) rfl (by kernel_rfl) (show 0 < 4 by decide)) ?_
      refine SWl.rd rfl (Rd.loadR rfl rfl (by kernel_rfl) (by simp)) ?_
      refine SWl.rd rfl (Rd.assign rfl) ?_
      refine SWl.nil ?_
      refine SN.then ?_
      refine SW.ret (fn := Tryd.f52) (fun _ _ h => h) (Rs.le (Rs.one rfl (ResV.tmp rfl)) ?_)
      exact Le.trans (Le.is (by rw [endE_else hs (fun h => h23 h.2)])) le_nw_is
  · have h12 : ¬ s.1 = 0 := of_decide_eq_false hb12
    refine SWz.off (i := 7) rfl rfl rfl (hb12) rfl rfl ?_
    refine SWz.off (i := 8) rfl rfl rfl (hb12) rfl rfl ?_
    refine SWz.off (i := 9) rfl rfl rfl (hb12) rfl rfl ?_
    refine SWz.off (i := 10) rfl rfl rfl (hb12) rfl rfl ?_
    refine SWz.off (i := 11) rfl rfl rfl (hb12) rfl rfl ?_
    refine SWz.off (i := 12) rfl rfl rfl (hb12) rfl rfl ?_
    refine SWz.off (i := 13) rfl rfl rfl (hb12) rfl rfl ?_
    refine SWz.off (i := 14) rfl rfl rfl (hb12) rfl rfl ?_
    refine SWz.off (i := 15) rfl rfl rfl (hb12) rfl rfl ?_
    refine SWz.off (i := 16) rfl rfl rfl (hb12) rfl rfl ?_
    refine SWz.rd (i := 17) rfl rfl (Rd.pickN rfl (hb12) rfl) ?_
    refine SWz.nil ?_
    refine SN.then ?_
    refine SW.condF rfl (rfl) ?_
    refine SW.skip ?_
    refine SN.then ?_
    refine SW.seq ?_
    refine SW.region ?_
    refine SWl.rd rfl (Rd.move rfl) ?_
    refine SWl.rd rfl (Rd.nilCheckP rfl) ?_
    refine SWl.rd rfl (Rd.fieldR (n := 0) rfl (by kernel_rfl) (show 0 < 4 by decide)) ?_
    refine SWl.rd rfl (Rd.fieldR (n := 0) rfl (by kernel_rfl) (show 0 < 4 by decide)) ?_
    refine SWl.rd rfl (Rd.loadR rfl rfl (by kernel_rfl) (by simp)) ?_
    refine SWl.rd rfl (Rd.assign rfl) ?_
    refine SWl.nil ?_
    refine SN.then ?_
    refine SW.ret (fn := Tryd.f52) (fun _ _ h => h) (Rs.le (Rs.one rfl (ResV.tmp rfl)) ?_)
    exact Le.trans (Le.is (by rw [endE_else hs (fun h => h12 h.1)])) le_nw_is
set_option maxHeartbeats 4000000 in
set_option maxRecDepth 100000 in
theorem con_ungroup (p : List UInt8) (hp : p.length ≤ 1000000) (N M : Nat) (h : rdg 9 true p = .ok (N, M)) : ConN Tryd.prog 134 [bD p, iD 9, isD (.int .u64 9223372036854775807)] (tupD [isD (.int .u64 (N : Int)), iD (M : Int), iD 0]) := by
  refine con_ofN Tryd.func134 (by kernel_rfl) rfl (by kernel_rfl) fun base w0 => ?_
  refine SW.seq ?_
  refine SW.region ?_
  refine SWl.rd rfl (Rd.assign rfl) ?_
  refine SWl.rd rfl (Rd.assign rfl) ?_
  refine SWl.rd rfl (Rd.assign rfl) ?_
  refine SWl.nil ?_
  refine SN.then ?_
  refine SW.seq ?_
  refine SW.region ?_
  refine SWl.rd rfl (Rd.assign rfl) ?_
  refine SWl.nil ?_
  refine SN.then ?_
  refine SW.seq ?_
  refine SW.region ?_
  refine SWl.rd rfl (Rd.assign rfl) ?_
  refine SWl.nil ?_
  refine SN.then ?_
  refine SW.block ?_
  refine SW.loop (ι := {q : Nat × Nat // GInv p 0 N M q.1 q.2}) (fun ⟨(i, z), hI⟩ => St.ob [(0, bD p), (1, iD 9), (2, isD (.int .u64 9223372036854775807)), (10, iD (i : Int)), (9, isD (.int .u64 (z : Int)))] []) (fun ⟨(i, z), hI⟩ => 9 - i) (⟨(0, 0), GInv.start h⟩) ?_ ?_
  · exact ⟨⟨_, rfl, ⟨⟨_, rfl, Le.refl _⟩, ⟨⟨_, rfl, Le.refl _⟩, ⟨⟨_, rfl, Le.refl _⟩, ⟨⟨_, rfl, Le.refl _⟩, ⟨⟨_, rfl, Le.refl _⟩, trivial⟩⟩⟩⟩⟩⟩, [], by decide, trivial⟩
  · rintro ⟨⟨i, z⟩, hI⟩ K0 hK0
    dsimp only at hI ⊢
    obtain ⟨hi9, c, hc, hcs⟩ := hI.step
    rw [Nat.zero_add] at hc
    have hkl := (List.getElem?_eq_some_iff.1 hc).1
    have hcl := u8_lt (c := c)
    have hal : z < 2 ^ (7 * i) := by rw [← pow128]; exact hI.2.1
    have hp7 := pow7 (show i ≤ 8 by omega)
    have hx : c.toNat % 128 < 128 := Nat.mod_lt _ (by decide)
    have hmul : 2 ^ (7 * i) * (c.toNat % 128) ≤ 9151314442816847872 := Nat.le_trans (Nat.mul_le_mul_left _ (show c.toNat % 128 ≤ 127 by omega)) (Nat.mul_le_mul_right 127 hp7)
    refine SW.seq ?_
    refine SW.block ?_
    refine SW.seq ?_
    refine SW.seq ?_
    refine SW.region ?_
    refine SWl.rd rfl (Rd.move rfl) ?_
    refine SWl.rd rfl (Rd.move rfl) ?_
    refine SWl.rd rfl (Rd.len (e := 5) rfl (by kernel_rfl)) ?_
    refine SWl.rd rfl (Rd.eqi rfl rfl) ?_
    refine SWl.nil ?_
    refine SN.then ?_
    refine SW.condF rfl (by apply decide_eq_false; rw [cellsOf_length]; omega) ?_
    refine SW.skip ?_
    refine SN.then ?_
    refine SW.seq ?_
    refine SW.seq ?_
    refine SW.region ?_
    refine SWl.rd rfl (Rd.move rfl) ?_
    refine SWl.rd rfl (Rd.move rfl) ?_
    refine SWl.rd rfl (Rd.subi rfl rfl ⟨by decide, by decide⟩) ?_
    refine SWl.rd rfl (Rd.eqi rfl rfl) ?_
    refine SWl.nil ?_
    refine SN.then ?_
    refine SW.cond rfl (fun hb21 => ?_) (fun hb21 => ?_)
    · have h21 : i = 8 := by have h := of_decide_eq_true hb21; omega
      refine SW.seq ?_
      obtain ⟨h8, hn0, hN, hM⟩ := hcs.resolve_right (fun h => by have := h.2.step.1; omega)
      rw [Nat.mod_eq_of_lt h8] at hmul hN
      refine SW.region ?_
      refine SWl.rd rfl (Rd.move rfl) ?_
      refine SWl.rd rfl (Rd.move rfl) ?_
      refine SWl.rd rfl (Rd.idx (e := 5) rfl rfl (by kernel_rfl) (by kernel_rfl) (by omega) (show (cellsOf p)[_]? = some (B8 c) from by simp [cellsOf, hc])) ?_
      refine SWl.rd rfl (Rd.loadP rfl (by kernel_rfl) (by simp)) ?_
      refine SWl.rd rfl (Rd.cvW (r := (c.toNat : Int)) .u8 rfl (by kernel_rfl) (by kernel_rfl) (wrap_u64 (by omega) (by omega))) ?_
      refine SWl.rd rfl (Rd.assign rfl) ?_
      refine SWl.nil ?_
      refine SN.then ?_
      refine SW.seq ?_
      refine SW.seq ?_
      refine SW.region ?_
      refine SWl.rd rfl (Rd.move rfl) ?_
      refine SWl.rd rfl (Rd.eqi rfl rfl) ?_
      refine SWl.rd rfl (Rd.move rfl) ?_
      refine SWl.rdg rfl rfl (by apply decide_eq_false; intro h; exact hn0 ⟨by omega, by omega⟩) rfl rfl (Rd.move rfl) ?_
      refine SWl.rdg rfl rfl (by apply decide_eq_false; intro h; exact hn0 ⟨by omega, by omega⟩) rfl rfl (Rd.move rfl) ?_
      refine SWl.rdg rfl rfl (by apply decide_eq_false; intro h; exact hn0 ⟨by omega, by omega⟩) rfl rfl (Rd.move rfl) ?_
      refine SWl.rdg rfl rfl (by apply decide_eq_false; intro h; exact hn0 ⟨by omega, by omega⟩) rfl rfl (Rd.mono (Rd.mul rfl rfl ⟨by omega, by omega⟩) (show Le _ (iD ((7 * i : Nat) : Int)) from Le.is (by simp))) ?_
      refine SWl.rdg rfl rfl (by apply decide_eq_false; intro h; exact hn0 ⟨by omega, by omega⟩) rfl rfl (Rd.shrW (s := 7 * i) (r := 127) rfl rfl (shr_max h21)) ?_
      refine SWl.rdg rfl rfl (by apply decide_eq_false; intro h; exact hn0 ⟨by omega, by omega⟩) rfl rfl (Rd.gtr rfl rfl) ?_
      refine SWl.rd rfl (Rd.pickN rfl (by apply decide_eq_false; intro h; exact hn0 ⟨by omega, by omega⟩) rfl) ?_
      refine SWl.nil ?_
      refine SN.then ?_
      refine SW.condF rfl (by apply decide_eq_false; omega) ?_
      refine SW.skip ?_
      refine SN.then ?_
      refine SW.seq ?_
      refine SW.region ?_
      refine SWl.rd rfl (Rd.move rfl) ?_
      refine SWl.rd rfl (Rd.move rfl) ?_
      refine SWl.rd rfl (Rd.move rfl) ?_
      refine SWl.rd rfl (Rd.mono (Rd.mul rfl rfl ⟨by omega, by omega⟩) (show Le _ (iD ((7 * i : Nat) : Int)) from Le.is (by simp))) ?_
      refine SWl.rd rfl (Rd.shlW (s := 7 * i) (r := ((2 ^ (7 * i) * c.toNat : Nat) : Int)) rfl rfl (shl_u64 (by omega) (by omega))) ?_
      refine SWl.rd rfl (Rd.orW (r := ((z + 2 ^ (7 * i) * c.toNat : Nat) : Int)) rfl rfl (or_u64 hal (by omega))) ?_
      refine SWl.rd rfl (Rd.move rfl) ?_
      refine SWl.rd rfl (Rd.add rfl rfl ⟨by omega, by omega⟩) ?_
      refine SWl.rd rfl (Rd.assign rfl) ?_
      refine SWl.rd rfl (Rd.assign rfl) ?_
      refine SWl.rd rfl (Rd.assign rfl) ?_
      refine SWl.nil ?_
      refine SN.then ?_
      refine SW.ret (fn := Tryd.f134) (fun _ _ h => h) (Rs.le (Rs.three rfl (ResV.tmp rfl) (ResV.tmp rfl) (ResV.tmp rfl)) ?_)
      exact le_nw_tup ⟨Le.trans (Le.is (by rw [← hN, pow128])) le_nw_is, Le.trans (Le.is (by rw [← hM]; simp)) le_nw_is, le_nw_is, trivial⟩
    · have h21 : ¬ i = 8 := by have h := of_decide_eq_false hb21; omega
      refine SW.skip ?_
      refine SN.then ?_
      refine SW.seq ?_
      rcases hcs with ⟨h8, hn0, hN, hM⟩ | ⟨h8, hg⟩
      · rw [Nat.mod_eq_of_lt h8] at hmul hN
        refine SW.region ?_
        refine SWl.rd rfl (Rd.move rfl) ?_
        refine SWl.rd rfl (Rd.move rfl) ?_
        refine SWl.rd rfl (Rd.move rfl) ?_
        refine SWl.rd rfl (Rd.idx (e := 5) rfl rfl (by kernel_rfl) (by kernel_rfl) (by omega) (show (cellsOf p)[_]? = some (B8 c) from by simp [cellsOf, hc])) ?_
        refine SWl.rd rfl (Rd.loadP rfl (by kernel_rfl) (by simp)) ?_
        refine SWl.rd rfl (Rd.remW (r := ((c.toNat % 128 : Nat) : Int)) rfl rfl (by decide) rem128_u8) ?_
        refine SWl.rd rfl (Rd.cvW (r := (c.toNat : Int)) .u8 rfl (by kernel_rfl) (by kernel_rfl) (by rw [Nat.mod_eq_of_lt h8]; exact wrap_u64 (by omega) (by omega))) ?_
        refine SWl.rd rfl (Rd.move rfl) ?_
        refine SWl.rd rfl (Rd.mono (Rd.mul rfl rfl ⟨by omega, by omega⟩) (show Le _ (iD ((7 * i : Nat) : Int)) from Le.is (by simp))) ?_
        refine SWl.rd rfl (Rd.shlW (s := 7 * i) (r := ((2 ^ (7 * i) * c.toNat : Nat) : Int)) rfl rfl (shl_u64 (by omega) (by omega))) ?_
        refine SWl.rd rfl (Rd.orW (r := ((z + 2 ^ (7 * i) * c.toNat : Nat) : Int)) rfl rfl (or_u64 hal (by omega))) ?_
        refine SWl.rd rfl (Rd.assign rfl) ?_
        refine SWl.nil ?_
        refine SN.then ?_
        refine SW.seq ?_
        refine SW.region ?_
        refine SWl.rd rfl (Rd.move rfl) ?_
        refine SWl.rd rfl (Rd.move rfl) ?_
        refine SWl.rd rfl (Rd.idx (e := 5) rfl rfl (by kernel_rfl) (by kernel_rfl) (by omega) (show (cellsOf p)[_]? = some (B8 c) from by simp [cellsOf, hc])) ?_
        refine SWl.rd rfl (Rd.loadP rfl (by kernel_rfl) (by simp)) ?_
        refine SWl.rd rfl (Rd.lss rfl rfl) ?_
        refine SWl.nil ?_
        refine SN.then ?_
        refine SW.condT rfl (by apply decide_eq_true; omega) ?_
        refine SW.seq ?_
        refine SW.seq ?_
        refine SW.region ?_
        refine SWl.rd rfl (Rd.move rfl) ?_
        refine SWl.rd rfl (Rd.gtr rfl rfl) ?_
        refine SWl.rd rfl (Rd.move rfl) ?_
        refine SWl.split 63 rfl (fun hb63 => ?_) (fun hb63 => ?_)
        · have h63 : 0 < i := by have h := of_decide_eq_true hb63; omega
          refine SWl.rdg rfl rfl (hb63) rfl rfl (Rd.move rfl) ?_
          refine SWl.rdg rfl rfl (hb63) rfl rfl (Rd.move rfl) ?_
          refine SWl.rdg rfl rfl (hb63) rfl rfl (Rd.idx (e := 5) rfl rfl (by kernel_rfl) (by kernel_rfl) (by omega) (show (cellsOf p)[_]? = some (B8 c) from by simp [cellsOf, hc])) ?_
          refine SWl.rdg rfl rfl (hb63) rfl rfl (Rd.loadP rfl (by kernel_rfl) (by simp)) ?_
          refine SWl.rdg rfl rfl (hb63) rfl rfl (Rd.eqi rfl rfl) ?_
          refine SWl.rd rfl (Rd.pickY rfl (hb63) rfl) ?_
          refine SWl.nil ?_
          refine SN.then ?_
          refine SW.condF rfl (by apply decide_eq_false; intro h; exact hn0 ⟨by omega, h63⟩) ?_
          refine SW.skip ?_
          refine SN.then ?_
          refine SW.seq ?_
          refine SW.region ?_
          refine SWl.rd rfl (Rd.move rfl) ?_
          refine SWl.rd rfl (Rd.move rfl) ?_
          refine SWl.rd rfl (Rd.add rfl rfl ⟨by omega, by omega⟩) ?_
          refine SWl.rd rfl (Rd.assign rfl) ?_
          refine SWl.rd rfl (Rd.assign rfl) ?_
          refine SWl.rd rfl (Rd.assign rfl) ?_
          refine SWl.nil ?_
          refine SN.then ?_
          refine SW.ret (fn := Tryd.f134) (fun _ _ h => h) (Rs.le (Rs.three rfl (ResV.tmp rfl) (ResV.tmp rfl) (ResV.tmp rfl)) ?_)
          exact le_nw_tup ⟨Le.trans (Le.is (by rw [← hN, pow128])) le_nw_is, Le.trans (Le.is (by rw [← hM]; simp)) le_nw_is, le_nw_is, trivial⟩
        · skip
          refine SWl.off rfl rfl (hb63) rfl rfl ?_
          refine SWl.off rfl rfl (hb63) rfl rfl ?_
          refine SWl.off rfl rfl (hb63) rfl rfl ?_
          refine SWl.off rfl rfl (hb63) rfl rfl ?_
          refine SWl.off rfl rfl (hb63) rfl rfl ?_
          refine SWl.rd rfl (Rd.pickN rfl (hb63) rfl) ?_
          refine SWl.nil ?_
          refine SN.then ?_
          refine SW.condF rfl (rfl) ?_
          refine SW.skip ?_
          refine SN.then ?_
          refine SW.seq ?_
          refine SW.region ?_
          refine SWl.rd rfl (Rd.move rfl) ?_
          refine SWl.rd rfl (Rd.move rfl) ?_
          refine SWl.rd rfl (Rd.add rfl rfl ⟨by omega, by omega⟩) ?_
          refine SWl.rd rfl (Rd.assign rfl) ?_
          refine SWl.rd rfl (Rd.assign rfl) ?_
          refine SWl.rd rfl (Rd.assign rfl) ?_
          refine SWl.nil ?_
          refine SN.then ?_
          refine SW.ret (fn := Tryd.f134) (fun _ _ h => h) (Rs.le (Rs.three rfl (ResV.tmp rfl) (ResV.tmp rfl) (ResV.tmp rfl)) ?_)
          exact le_nw_tup ⟨Le.trans (Le.is (by rw [← hN, pow128])) le_nw_is, Le.trans (Le.is (by rw [← hM]; simp)) le_nw_is, le_nw_is, trivial⟩
      · skip
        refine SW.region ?_
        refine SWl.rd rfl (Rd.move rfl) ?_
        refine SWl.rd rfl (Rd.move rfl) ?_
        refine SWl.rd rfl (Rd.move rfl) ?_
        refine SWl.rd rfl (Rd.idx (e := 5) rfl rfl (by kernel_rfl) (by kernel_rfl) (by omega) (show (cellsOf p)[_]? = some (B8 c) from by simp [cellsOf, hc])) ?_
        refine SWl.rd rfl (Rd.loadP rfl (by kernel_rfl) (by simp)) ?_
        refine SWl.rd rfl (Rd.remW (r := ((c.toNat % 128 : Nat) : Int)) rfl rfl (by decide) rem128_u8) ?_
        refine SWl.rd rfl (Rd.cvW (r := ((c.toNat % 128 : Nat) : Int)) .u8 rfl (by kernel_rfl) (by kernel_rfl) (wrap_u64 (by omega) (by omega))) ?_
        refine SWl.rd rfl (Rd.move rfl) ?_
        refine SWl.rd rfl (Rd.mono (Rd.mul rfl rfl ⟨by omega, by omega⟩) (show Le _ (iD ((7 * i : Nat) : Int)) from Le.is (by simp))) ?_
        refine SWl.rd rfl (Rd.shlW (s := 7 * i) (r := ((2 ^ (7 * i) * (c.toNat % 128) : Nat) : Int)) rfl rfl (shl_u64 (by omega) (by omega))) ?_
        refine SWl.rd rfl (Rd.orW (r := ((z + 2 ^ (7 * i) * (c.toNat % 128) : Nat) : Int)) rfl rfl (or_u64 hal (by omega))) ?_
        refine SWl.rd rfl (Rd.assign rfl) ?_
        refine SWl.nil ?_
        refine SN.then ?_
        refine SW.seq ?_
        refine SW.region ?_
        refine SWl.rd rfl (Rd.move rfl) ?_
        refine SWl.rd rfl (Rd.move rfl) ?_
        refine SWl.rd rfl (Rd.idx (e := 5) rfl rfl (by kernel_rfl) (by kernel_rfl) (by omega) (show (cellsOf p)[_]? = some (B8 c) from by simp [cellsOf, hc])) ?_
        refine SWl.rd rfl (Rd.loadP rfl (by kernel_rfl) (by simp)) ?_
        refine SWl.rd rfl (Rd.lss rfl rfl) ?_
        refine SWl.nil ?_
        refine SN.then ?_
        refine SW.condF rfl (by apply decide_eq_false; omega) ?_
        refine SW.skip ?_
        refine SN.block ?_
        refine SN.then ?_
        refine SW.region ?_
        refine SWl.rd rfl (Rd.move rfl) ?_
        refine SWl.rd rfl (Rd.add rfl rfl ⟨by omega, by omega⟩) ?_
        refine SWl.rd rfl (Rd.assign rfl) ?_
        refine SWl.nil ?_
        exact fun a w hh => hK0 (⟨(i + 1, z + 128 ^ i * (c.toNat % 128)), hg⟩) (by dsimp only; omega) a w (hh.sub (⟨⟨_, rfl, ⟨⟨_, rfl, Le.refl _⟩, ⟨⟨_, rfl, Le.refl _⟩, ⟨⟨_, rfl, Le.refl _⟩, ⟨⟨_, rfl, Le.is (by simp)⟩, ⟨⟨_, rfl, Le.is (by rw [pow128])⟩, trivial⟩⟩⟩⟩⟩⟩, [], by decide, trivial⟩))
set_option maxHeartbeats 4000000 in
set_option maxRecDepth 100000 in
theorem con_ungroup_bad (p : List UInt8) (hp : p.length ≤ 1000000) (E : Int) (h : rdg 9 true p = .error E) : ConN Tryd.prog 134 [bD p, iD 9, isD (.int .u64 9223372036854775807)] (tupD [isD (.int .u64 0), iD 0, iD E]) := by
  refine con_ofN Tryd.func134 (by kernel_rfl) rfl (by kernel_rfl) fun base w0 => ?_
  refine SW.seq ?_
  refine SW.region ?_
  refine SWl.rd rfl (Rd.assign rfl) ?_
  refine SWl.rd rfl (Rd.assign rfl) ?_
  refine SWl.rd rfl (Rd.assign rfl) ?_
  refine SWl.nil ?_
  refine SN.then ?_
  refine SW.seq ?_
  refine SW.region ?_
  refine SWl.rd rfl (Rd.assign rfl) ?_
  refine SWl.nil ?_
  refine SN.then ?_
  refine SW.seq ?_
  refine SW.region ?_
  refine SWl.rd rfl (Rd.assign rfl) ?_
  refine SWl.nil ?_
  refine SN.then ?_
  refine SW.block ?_
  refine SW.loop (ι := {q : Nat × Int // GBad p 0 E q.1 ∧ q.1 ≤ 8 ∧ q.1 ≤ p.length}) (fun ⟨(i, z), hI⟩ => St.ob [(0, bD p), (1, iD 9), (2, isD (.int .u64 9223372036854775807)), (10, iD (i : Int)), (9, isD (.int .u64 z))] []) (fun ⟨(i, z), hI⟩ => 9 - i) (⟨(0, 0), GBad.start h, by decide, Nat.zero_le _⟩) ?_ ?_
  · exact ⟨⟨_, rfl, ⟨⟨_, rfl, Le.refl _⟩, ⟨⟨_, rfl, Le.refl _⟩, ⟨⟨_, rfl, Le.refl _⟩, ⟨⟨_, rfl, Le.refl _⟩, ⟨⟨_, rfl, Le.refl _⟩, trivial⟩⟩⟩⟩⟩⟩, [], by decide, trivial⟩
  · rintro ⟨⟨i, z⟩, hI, hi8, hil⟩ K0 hK0
    dsimp only at hI hi8 hil ⊢
    refine SW.seq ?_
    refine SW.block ?_
    refine SW.seq ?_
    refine SW.seq ?_
    refine SW.region ?_
    refine SWl.rd rfl (Rd.move rfl) ?_
    refine SWl.rd rfl (Rd.move rfl) ?_
    refine SWl.rd rfl (Rd.len (e := 5) rfl (by kernel_rfl)) ?_
    refine SWl.rd rfl (Rd.eqi rfl rfl) ?_
    refine SWl.nil ?_
    refine SN.then ?_
    refine SW.cond rfl (fun hb17 => ?_) (fun hb17 => ?_)
    · skip
      refine SW.seq ?_
      obtain rfl : E = 4 := hI.short (by omega) (by have h := of_decide_eq_true hb17; rw [cellsOf_length] at h; omega)
      refine SW.region ?_
      refine SWl.rd rfl (Rd.assign rfl) ?_
      refine SWl.rd rfl (Rd.assign rfl) ?_
      refine SWl.rd rfl (Rd.assign rfl) ?_
      refine SWl.nil ?_
      refine SN.then ?_
      refine SW.ret (fn := Tryd.f134) (fun _ _ h => h) (Rs.le (Rs.three rfl (ResV.tmp rfl) (ResV.tmp rfl) (ResV.tmp rfl)) ?_)
      exact le_nw_tup ⟨le_nw_is, le_nw_is, le_nw_is, trivial⟩
    · skip
      refine SW.skip ?_
      refine SN.then ?_
      refine SW.seq ?_
      refine SW.seq ?_
      have hkl : i < p.length := by have h17 := of_decide_eq_false hb17; rw [cellsOf_length] at h17; omega
      obtain ⟨c, hc⟩ : ∃ c, p[i]? = some c := ⟨_, List.getElem?_eq_getElem hkl⟩
      have hcl := u8_lt (c := c)
      refine SW.region ?_
      refine SWl.rd rfl (Rd.move rfl) ?_
      refine SWl.rd rfl (Rd.move rfl) ?_
      refine SWl.rd rfl (Rd.subi rfl rfl ⟨by decide, by decide⟩) ?_
      refine SWl.rd rfl (Rd.eqi rfl rfl) ?_
      refine SWl.nil ?_
      refine SN.then ?_
      refine SW.cond rfl (fun hb21 => ?_) (fun hb21 => ?_)
      · have h21 : i = 8 := by have h := of_decide_eq_true hb21; omega
        refine SW.seq ?_
        have hE6 : E = 6 := by rcases hI.step (by omega) (by rw [Nat.zero_add]; exact hc) with ⟨_, _, _, h⟩ | ⟨_, h⟩; exact h; exact h.last (by omega)
        subst hE6
        refine SW.region ?_
        refine SWl.rd rfl (Rd.move rfl) ?_
        refine SWl.rd rfl (Rd.move rfl) ?_
        refine SWl.rd rfl (Rd.idx (e := 5) rfl rfl (by kernel_rfl) (by kernel_rfl) (by omega) (show (cellsOf p)[_]? = some (B8 c) from by simp [cellsOf, hc])) ?_
        refine SWl.rd rfl (Rd.loadP rfl (by kernel_rfl) (by simp)) ?_
        refine SWl.rd rfl (Rd.cvW (r := (c.toNat : Int)) .u8 rfl (by kernel_rfl) (by kernel_rfl) (wrap_u64 (by omega) (by omega))) ?_
        refine SWl.rd rfl (Rd.assign rfl) ?_
        refine SWl.nil ?_
        refine SN.then ?_
        refine SW.seq ?_
        refine SW.seq ?_
        refine SW.region ?_
        refine SWl.rd rfl (Rd.move rfl) ?_
        refine SWl.rd rfl (Rd.eqi rfl rfl) ?_
        refine SWl.rd rfl (Rd.move rfl) ?_
        refine SWl.split 29 rfl (fun hb29 => ?_) (fun hb29 => ?_)
        · skip
          refine SWl.off rfl rfl (hb29) rfl rfl ?_
          refine SWl.off rfl rfl (hb29) rfl rfl ?_
          refine SWl.off rfl rfl (hb29) rfl rfl ?_
          refine SWl.off rfl rfl (hb29) rfl rfl ?_
          refine SWl.off rfl rfl (hb29) rfl rfl ?_
          refine SWl.off rfl rfl (hb29) rfl rfl ?_
          refine SWl.rd rfl (Rd.pickY rfl (hb29) rfl) ?_
          refine SWl.nil ?_
          refine SN.then ?_
          refine SW.condT rfl (rfl) ?_
          refine SW.seq ?_
          refine SW.region ?_
          refine SWl.rd rfl (Rd.assign rfl) ?_
          refine SWl.rd rfl (Rd.assign rfl) ?_
          refine SWl.rd rfl (Rd.assign rfl) ?_
          refine SWl.nil ?_
          refine SN.then ?_
          refine SW.ret (fn := Tryd.f134) (fun _ _ h => h) (Rs.le (Rs.three rfl (ResV.tmp rfl) (ResV.tmp rfl) (ResV.tmp rfl)) ?_)
          exact le_nw_tup ⟨le_nw_is, le_nw_is, le_nw_is, trivial⟩
        · have h29 := of_decide_eq_false hb29
          refine SWl.rdg rfl rfl (hb29) rfl rfl (Rd.move rfl) ?_
          refine SWl.rdg rfl rfl (hb29) rfl rfl (Rd.move rfl) ?_
          refine SWl.rdg rfl rfl (hb29) rfl rfl (Rd.move rfl) ?_
          refine SWl.rdg rfl rfl (hb29) rfl rfl (Rd.mono (Rd.mul rfl rfl ⟨by omega, by omega⟩) (show Le _ (iD ((7 * i : Nat) : Int)) from Le.is (by simp))) ?_
          refine SWl.rdg rfl rfl (hb29) rfl rfl (Rd.shrW (s := 7 * i) (r := 127) rfl rfl (shr_max h21)) ?_
          refine SWl.rdg rfl rfl (hb29) rfl rfl (Rd.gtr rfl rfl) ?_
          refine SWl.rd rfl (Rd.pickN rfl (hb29) rfl) ?_
          refine SWl.nil ?_
          refine SN.then ?_
          refine SW.condT rfl (by apply decide_eq_true; rcases hI.step (by omega) (by rw [Nat.zero_add]; exact hc) with ⟨_, h, _, _⟩ | ⟨h, _⟩ <;> omega) ?_
          refine SW.seq ?_
          refine SW.region ?_
          refine SWl.rd rfl (Rd.assign rfl) ?_
          refine SWl.rd rfl (Rd.assign rfl) ?_
          refine SWl.rd rfl (Rd.assign rfl) ?_
          refine SWl.nil ?_
          refine SN.then ?_
          refine SW.ret (fn := Tryd.f134) (fun _ _ h => h) (Rs.le (Rs.three rfl (ResV.tmp rfl) (ResV.tmp rfl) (ResV.tmp rfl)) ?_)
          exact le_nw_tup ⟨le_nw_is, le_nw_is, le_nw_is, trivial⟩
      · have h21 : ¬ i = 8 := by have h := of_decide_eq_false hb21; omega
        refine SW.skip ?_
        refine SN.then ?_
        refine SW.seq ?_
        have hx : c.toNat % 128 < 128 := Nat.mod_lt _ (by decide)
        refine SW.region ?_
        refine SWl.rd rfl (Rd.move rfl) ?_
        refine SWl.rd rfl (Rd.move rfl) ?_
        refine SWl.rd rfl (Rd.move rfl) ?_
        refine SWl.rd rfl (Rd.idx (e := 5) rfl rfl (by kernel_rfl) (by kernel_rfl) (by omega) (show (cellsOf p)[_]? = some (B8 c) from by simp [cellsOf, hc])) ?_
        refine SWl.rd rfl (Rd.loadP rfl (by kernel_rfl) (by simp)) ?_
        refine SWl.rd rfl (Rd.remW (r := ((c.toNat % 128 : Nat) : Int)) rfl rfl (by decide) rem128_u8) ?_
        refine SWl.rd rfl (Rd.cvW (r := ((c.toNat % 128 : Nat) : Int)) .u8 rfl (by kernel_rfl) (by kernel_rfl) (wrap_u64 (by omega) (by omega))) ?_
        refine SWl.rd rfl (Rd.move rfl) ?_
        refine SWl.rd rfl (Rd.mono (Rd.mul rfl rfl ⟨by omega, by omega⟩) (show Le _ (iD ((7 * i : Nat) : Int)) from Le.is (by simp))) ?_
        refine SWl.rd rfl (Rd.shlW (s := 7 * i) rfl rfl rfl) ?_
        refine SWl.rd rfl (Rd.orW rfl rfl rfl) ?_
        refine SWl.rd rfl (Rd.assign rfl) ?_
        refine SWl.nil ?_
        refine SN.then ?_
        refine SW.seq ?_
        rcases hI.step (by omega) (by rw [Nat.zero_add]; exact hc) with ⟨h8, h0, hi0, hE⟩ | ⟨h8, hg⟩
        · subst hE
          refine SW.region ?_
          refine SWl.rd rfl (Rd.move rfl) ?_
          refine SWl.rd rfl (Rd.move rfl) ?_
          refine SWl.rd rfl (Rd.idx (e := 5) rfl rfl (by kernel_rfl) (by kernel_rfl) (by omega) (show (cellsOf p)[_]? = some (B8 c) from by simp [cellsOf, hc])) ?_
          refine SWl.rd rfl (Rd.loadP rfl (by kernel_rfl) (by simp)) ?_
          refine SWl.rd rfl (Rd.lss rfl rfl) ?_
          refine SWl.nil ?_
          refine SN.then ?_
          refine SW.condT rfl (by apply decide_eq_true; omega) ?_
          refine SW.seq ?_
          refine SW.seq ?_
          refine SW.region ?_
          refine SWl.rd rfl (Rd.move rfl) ?_
          refine SWl.rd rfl (Rd.gtr rfl rfl) ?_
          refine SWl.rd rfl (Rd.move rfl) ?_
          refine SWl.rdg rfl rfl (by apply decide_eq_true; omega) rfl rfl (Rd.move rfl) ?_
          refine SWl.rdg rfl rfl (by apply decide_eq_true; omega) rfl rfl (Rd.move rfl) ?_
          refine SWl.rdg rfl rfl (by apply decide_eq_true; omega) rfl rfl (Rd.idx (e := 5) rfl rfl (by kernel_rfl) (by kernel_rfl) (by omega) (show (cellsOf p)[_]? = some (B8 c) from by simp [cellsOf, hc])) ?_
          refine SWl.rdg rfl rfl (by apply decide_eq_true; omega) rfl rfl (Rd.loadP rfl (by kernel_rfl) (by simp)) ?_
          refine SWl.rdg rfl rfl (by apply decide_eq_true; omega) rfl rfl (Rd.eqi rfl rfl) ?_
          refine SWl.rd rfl (Rd.pickY rfl (by apply decide_eq_true; omega) rfl) ?_
          refine SWl.nil ?_
          refine SN.then ?_
          refine SW.condT rfl (by apply decide_eq_true; omega) ?_
          refine SW.seq ?_
          refine SW.region ?_
          refine SWl.rd rfl (Rd.assign rfl) ?_
          refine SWl.rd rfl (Rd.assign rfl) ?_
          refine SWl.rd rfl (Rd.assign rfl) ?_
          refine SWl.nil ?_
          refine SN.then ?_
          refine SW.ret (fn := Tryd.f134) (fun _ _ h => h) (Rs.le (Rs.three rfl (ResV.tmp rfl) (ResV.tmp rfl) (ResV.tmp rfl)) ?_)
          exact le_nw_tup ⟨le_nw_is, le_nw_is, le_nw_is, trivial⟩
        · skip
          refine SW.region ?_
          refine SWl.rd rfl (Rd.move rfl) ?_
          refine SWl.rd rfl (Rd.move rfl) ?_
          refine SWl.rd rfl (Rd.idx (e := 5) rfl rfl (by kernel_rfl) (by kernel_rfl) (by omega) (show (cellsOf p)[_]? = some (B8 c) from by simp [cellsOf, hc])) ?_
          refine SWl.rd rfl (Rd.loadP rfl (by kernel_rfl) (by simp)) ?_
          refine SWl.rd rfl (Rd.lss rfl rfl) ?_
          refine SWl.nil ?_
          refine SN.then ?_
          refine SW.condF rfl (by apply decide_eq_false; omega) ?_
          refine SW.skip ?_
          refine SN.block ?_
          refine SN.then ?_
          refine SW.region ?_
          refine SWl.rd rfl (Rd.move rfl) ?_
          refine SWl.rd rfl (Rd.add rfl rfl ⟨by omega, by omega⟩) ?_
          refine SWl.rd rfl (Rd.assign rfl) ?_
          refine SWl.nil ?_
          exact fun a w hh => hK0 (⟨(i + 1, _), hg, by dsimp only; omega, by dsimp only; omega⟩) (by dsimp only; omega) a w (hh.sub (⟨⟨_, rfl, ⟨⟨_, rfl, Le.refl _⟩, ⟨⟨_, rfl, Le.refl _⟩, ⟨⟨_, rfl, Le.refl _⟩, ⟨⟨_, rfl, Le.is (by simp)⟩, ⟨⟨_, rfl, Le.refl _⟩, trivial⟩⟩⟩⟩⟩⟩, [], by decide, trivial⟩))
end Sx
end Go.Proofs.YtchbgfgboogniaaDoor
namespace Go.Proofs.YtchbgfgboogniaaDoor
open Go.RowKit
namespace Sx
def u6 (p : List UInt8) : Nat × Nat × Int := match rdg 9 true p with | .ok (n, m) => (n, m, 0) | .error e => (0, 0, e)
theorem u6_ok {p : List UInt8} {n m : Nat} (h : rdg 9 true p = .ok (n, m)) : u6 p = (n, m, 0) := by unfold u6; rw [h]
theorem u6_bad {p : List UInt8} {E : Int} (h : rdg 9 true p = .error E) : u6 p = (0, 0, E) := by unfold u6; rw [h]
theorem u6_bd (p : List UInt8) : (u6 p).1 < 9223372036854775808 ∧ (u6 p).2.1 ≤ p.length := by
  rcases h : rdg 9 true p with E | ⟨n, m⟩
  · rw [u6_bad h]; exact ⟨(show 0 < 9223372036854775808 by decide), Nat.zero_le _⟩
  · rw [u6_ok h]; exact ⟨u63_lt (rdg_bd h).1, (rdg_bd h).2.2⟩
def c6 (lim : Int) (p : List UInt8) : Nat × Nat × Int := if (u6 p).2.2 ≠ 0 then (0, 0, (u6 p).2.2) else if lim < ((u6 p).1 : Int) then (0, 0, 7) else ((u6 p).1, (u6 p).2.1, 0)
theorem c6_e {lim : Int} {p : List UInt8} (h : (u6 p).2.2 ≠ 0) : c6 lim p = (0, 0, (u6 p).2.2) := if_pos h
theorem c6_l {lim : Int} {p : List UInt8} (h : ¬ (u6 p).2.2 ≠ 0) (h2 : lim < ((u6 p).1 : Int)) : c6 lim p = (0, 0, 7) := by unfold c6; rw [if_neg h, if_pos h2]
theorem c6_k {lim : Int} {p : List UInt8} (h : ¬ (u6 p).2.2 ≠ 0) (h2 : ¬ lim < ((u6 p).1 : Int)) : c6 lim p = ((u6 p).1, (u6 p).2.1, 0) := by unfold c6; rw [if_neg h, if_neg h2]
theorem c6_bd (lim : Int) (p : List UInt8) : (c6 lim p).1 < 9223372036854775808 ∧ (c6 lim p).2.1 ≤ p.length := by
  have h := u6_bd p
  unfold c6
  split
  · exact ⟨(show 0 < 9223372036854775808 by decide), Nat.zero_le _⟩
  · split
    · exact ⟨(show 0 < 9223372036854775808 by decide), Nat.zero_le _⟩
    · exact h
theorem c6_ok {lim : Int} {p : List UInt8} {n m : Nat} (h : rdC lim p = .ok (n, m)) : c6 lim p = (n, m, 0) := by
  obtain ⟨h1, h2⟩ := rdC_ok h
  have h3 := u6_ok h1
  rw [c6_k (by rw [h3]; simp) (by rw [h3]; simpa using h2), h3]
theorem c6_bad {lim : Int} {p : List UInt8} {E : Int} (h : rdC lim p = .error E) : c6 lim p = (0, 0, E) := by
  rcases rdC_err h with h1 | ⟨n, m, h1, h2, rfl⟩
  · have h3 := u6_bad h1
    rw [c6_e (by rw [h3]; exact rdg_ne h1), h3]
  · have h3 := u6_ok h1
    rw [c6_l (by rw [h3]; simp) (by rw [h3]; exact h2)]
def b6 (lim : Int) (p : List UInt8) : List UInt8 × Nat × Int := if (c6 lim p).2.2 ≠ 0 then ([], 0, (c6 lim p).2.2) else if p.length < (c6 lim p).2.1 + (c6 lim p).1 then ([], 0, 4) else ((p.drop (c6 lim p).2.1).take (c6 lim p).1, (c6 lim p).2.1 + (c6 lim p).1, 0)
theorem b6_e {lim : Int} {p : List UInt8} (h : (c6 lim p).2.2 ≠ 0) : b6 lim p = ([], 0, (c6 lim p).2.2) := if_pos h
theorem b6_l {lim : Int} {p : List UInt8} (h : ¬ (c6 lim p).2.2 ≠ 0) (h2 : p.length < (c6 lim p).2.1 + (c6 lim p).1) : b6 lim p = ([], 0, 4) := by unfold b6; rw [if_neg h, if_pos h2]
theorem b6_k {lim : Int} {p : List UInt8} (h : ¬ (c6 lim p).2.2 ≠ 0) (h2 : ¬ p.length < (c6 lim p).2.1 + (c6 lim p).1) : b6 lim p = ((p.drop (c6 lim p).2.1).take (c6 lim p).1, (c6 lim p).2.1 + (c6 lim p).1, 0) := by unfold b6; rw [if_neg h, if_neg h2]
theorem b6_bd (lim : Int) (p : List UInt8) : (b6 lim p).2.1 ≤ p.length := by
  unfold b6
  split
  · exact Nat.zero_le _
  · split
    · exact Nat.zero_le _
    · dsimp only; omega
theorem b6_ok {lim : Int} {p q : List UInt8} {m : Nat} (h : rdP lim p = .ok (q, m)) : b6 lim p = (q, m, 0) := by
  obtain ⟨n, k, h1, h2, h3, h4⟩ := rdP_ok h
  have h5 := c6_ok h1
  rw [b6_k (by rw [h5]; simp) (by rw [h5]; simp; omega), h5, h3, h4]
theorem b6_bad {lim : Int} {p : List UInt8} {E : Int} (h : rdP lim p = .error E) : b6 lim p = ([], 0, E) := by
  rcases rdP_err h with h1 | ⟨n, k, h1, h2, rfl⟩
  · have h5 := c6_bad h1
    rw [b6_e (by rw [h5]; exact rdC_ne h1), h5]
  · have h5 := c6_ok h1
    rw [b6_l (by rw [h5]; simp) (by rw [h5]; exact h2)]
theorem sU_e {r : RT} (h : r.e = 0) (h2 : (u6 r.p).2.2 ≠ 0) : stU r = (0, ⟨[], (u6 r.p).2.2⟩) := by
  rcases hr : rdg 9 true r.p with E | ⟨n, m⟩
  · rw [u6_bad hr]; exact stG_bad h hr
  · rw [u6_ok hr] at h2; exact absurd rfl h2
theorem sU_k {r : RT} (h : r.e = 0) (h2 : ¬ (u6 r.p).2.2 ≠ 0) : stU r = (((u6 r.p).1 : Int), ⟨r.p.drop (u6 r.p).2.1, 0⟩) := by
  rcases hr : rdg 9 true r.p with E | ⟨n, m⟩
  · rw [u6_bad hr] at h2; exact absurd (rdg_ne hr) h2
  · rw [u6_ok hr]; exact stG_ok h hr
theorem sP_e {lim : Int} {r : RT} (h : r.e = 0) (h2 : (b6 lim r.p).2.2 ≠ 0) : stP lim r = ([], ⟨[], (b6 lim r.p).2.2⟩) := by
  rcases hr : rdP lim r.p with E | ⟨n, m⟩
  · rw [b6_bad hr]; exact stG_bad h hr
  · rw [b6_ok hr] at h2; exact absurd rfl h2
theorem sP_k {lim : Int} {r : RT} (h : r.e = 0) (h2 : ¬ (b6 lim r.p).2.2 ≠ 0) : stP lim r = ((b6 lim r.p).1, ⟨r.p.drop (b6 lim r.p).2.1, 0⟩) := by
  rcases hr : rdP lim r.p with E | ⟨n, m⟩
  · rw [b6_bad hr] at h2; exact absurd (rdP_ne hr) h2
  · rw [b6_ok hr]; exact stG_ok h hr
theorem bldRR1 {e : Int} : Bld Tryd.prog 125 [1] [iD e] [isD (.slice none 0 0), iD e] := fun L w vs hv => by
  obtain ⟨u, rfl, rfl⟩ := all1 hv
  exact ⟨[.slice none 0 0, .int .i64 e], ⟨rfl, rfl, trivial⟩, fun w' => by kernel_rfl⟩
theorem bldRR0 {b : List UInt8} : Bld Tryd.prog 125 [0] [bD b] [bD b, iD 0] := fun L w vs hv => by
  obtain ⟨u, rfl, h3⟩ := all1 hv
  have h3' := h3
  obtain ⟨A, cp, rfl, -⟩ := h3
  exact ⟨[.slice A _ cp, .int .i64 0], ⟨h3', rfl, trivial⟩, fun w' => by kernel_rfl⟩
set_option maxHeartbeats 4000000 in
set_option maxRecDepth 100000 in
theorem con_u6g (p : List UInt8) (hp : p.length ≤ 1000000) (n m : Nat) (E : Int) (hn : n < 9223372036854775808) (hc : ConN Tryd.prog 134 [bD p, iD 9, isD (.int .u64 9223372036854775807)] (tupD [isD (.int .u64 (n : Int)), iD (m : Int), iD E])) : ConN Tryd.prog 119 [bD p] (tupD [iD (n : Int), iD (m : Int), iD E]) := by
  refine con_ofN Tryd.func119 (by kernel_rfl) rfl (by kernel_rfl) fun base w0 => ?_
  refine SW.seq ?_
  refine SW.region ?_
  refine SWl.rd rfl (Rd.assign rfl) ?_
  refine SWl.rd rfl (Rd.assign rfl) ?_
  refine SWl.rd rfl (Rd.assign rfl) ?_
  refine SWl.nil ?_
  refine SN.then ?_
  refine SW.seq ?_
  refine SW.region ?_
  refine SWl.rd rfl (Rd.move rfl) ?_
  refine SWl.ef (S := []) (Ef.callN [] (hc) rfl ⟨(sees_le (Le.refl _)), (sees_le (Le.refl _)), (sees_le (Le.refl _)), trivial⟩ rfl) ?_
  rintro _ rfl
  refine SWl.rd rfl (Rd.move rfl) ?_
  refine SWl.rd rfl (Rd.extract rfl rfl) ?_
  refine SWl.rd rfl (Rd.extract rfl rfl) ?_
  refine SWl.rd rfl (Rd.extract rfl rfl) ?_
  refine SWl.rd rfl (Rd.assign rfl) ?_
  refine SWl.rd rfl (Rd.assign rfl) ?_
  refine SWl.rd rfl (Rd.assign rfl) ?_
  refine SWl.nil ?_
  refine SN.then ?_
  refine SW.seq ?_
  refine SW.region ?_
  refine SWl.rd rfl (Rd.move rfl) ?_
  refine SWl.rd rfl (Rd.cvW (r := (n : Int)) .u64 rfl (by kernel_rfl) (by kernel_rfl) (i64_w hn)) ?_
  refine SWl.rd rfl (Rd.move rfl) ?_
  refine SWl.rd rfl (Rd.move rfl) ?_
  refine SWl.rd rfl (Rd.assign rfl) ?_
  refine SWl.rd rfl (Rd.assign rfl) ?_
  refine SWl.rd rfl (Rd.assign rfl) ?_
  refine SWl.nil ?_
  refine SN.then ?_
  refine SW.ret (fn := Tryd.f119) (fun _ _ h => h) (Rs.le (Rs.three rfl (ResV.tmp rfl) (ResV.tmp rfl) (ResV.tmp rfl)) ?_)
  exact (le_nw_tup ⟨le_nw_is, le_nw_is, le_nw_is, trivial⟩)
theorem con_u6 (p : List UInt8) (hp : p.length ≤ 1000000) : ConN Tryd.prog 119 [bD p] (tupD [iD ((u6 p).1 : Int), iD ((u6 p).2.1 : Int), iD (u6 p).2.2]) := by
  rcases h : rdg 9 true p with E | ⟨n, m⟩
  · rw [u6_bad h]; exact con_u6g p hp 0 0 E (by decide) (con_ungroup_bad p hp E h)
  · rw [u6_ok h]; exact con_u6g p hp n m 0 (u63_lt (rdg_bd h).1) (con_ungroup p hp n m h)
set_option maxHeartbeats 4000000 in
set_option maxRecDepth 100000 in
theorem con_c6 (p : List UInt8) (hp : p.length ≤ 1000000) (lim : Int) (hl : 0 ≤ lim)  : ConN Tryd.prog 133 [bD p, iD lim] (tupD [iD ((c6 lim p).1 : Int), iD ((c6 lim p).2.1 : Int), iD (c6 lim p).2.2]) := by
  refine con_ofN Tryd.func133 (by kernel_rfl) rfl (by kernel_rfl) fun base w0 => ?_
  refine SW.seq ?_
  refine SW.region ?_
  refine SWl.rd rfl (Rd.assign rfl) ?_
  refine SWl.rd rfl (Rd.assign rfl) ?_
  refine SWl.rd rfl (Rd.assign rfl) ?_
  refine SWl.nil ?_
  refine SN.then ?_
  refine SW.seq ?_
  refine SW.region ?_
  refine SWl.rd rfl (Rd.move rfl) ?_
  refine SWl.ef (S := []) (Ef.callN [] (con_u6 p hp) rfl ⟨(sees_le (Le.refl _)), trivial⟩ rfl) ?_
  rintro _ rfl
  refine SWl.rd rfl (Rd.move rfl) ?_
  refine SWl.rd rfl (Rd.extract rfl rfl) ?_
  refine SWl.rd rfl (Rd.extract rfl rfl) ?_
  refine SWl.rd rfl (Rd.extract rfl rfl) ?_
  refine SWl.rd rfl (Rd.assign rfl) ?_
  refine SWl.rd rfl (Rd.assign rfl) ?_
  refine SWl.rd rfl (Rd.assign rfl) ?_
  refine SWl.nil ?_
  refine SN.then ?_
  refine SW.seq ?_
  refine SW.seq ?_
  refine SW.region ?_
  refine SWl.rd rfl (Rd.move rfl) ?_
  refine SWl.rd rfl (Rd.nei rfl rfl) ?_
  refine SWl.nil ?_
  refine SN.then ?_
  refine SW.cond rfl (fun hb17 => ?_) (fun hb17 => ?_)
  · have h17 : (u6 p).2.2 ≠ 0 := by simpa using hb17
    refine SW.seq ?_
    refine SW.region ?_
    refine SWl.rd rfl (Rd.move rfl) ?_
    refine SWl.rd rfl (Rd.assign rfl) ?_
    refine SWl.rd rfl (Rd.assign rfl) ?_
    refine SWl.rd rfl (Rd.assign rfl) ?_
    refine SWl.nil ?_
    refine SN.then ?_
    refine SW.ret (fn := Tryd.f133) (fun _ _ h => h) (Rs.le (Rs.three rfl (ResV.tmp rfl) (ResV.tmp rfl) (ResV.tmp rfl)) ?_)
    rw [c6_e h17]; exact le_nw_tup ⟨le_nw_is, le_nw_is, le_nw_is, trivial⟩
  · have h17 : ¬ (u6 p).2.2 ≠ 0 := by simpa using hb17
    refine SW.skip ?_
    refine SN.then ?_
    refine SW.seq ?_
    refine SW.seq ?_
    refine SW.region ?_
    refine SWl.rd rfl (Rd.move rfl) ?_
    refine SWl.rd rfl (Rd.lss rfl rfl) ?_
    refine SWl.nil ?_
    refine SN.then ?_
    refine SW.condF rfl (by apply decide_eq_false; omega) ?_
    refine SW.skip ?_
    refine SN.then ?_
    refine SW.seq ?_
    refine SW.seq ?_
    refine SW.region ?_
    refine SWl.rd rfl (Rd.move rfl) ?_
    refine SWl.rd rfl (Rd.move rfl) ?_
    refine SWl.rd rfl (Rd.gtr rfl rfl) ?_
    refine SWl.nil ?_
    refine SN.then ?_
    refine SW.cond rfl (fun hb23 => ?_) (fun hb23 => ?_)
    · have h23 := of_decide_eq_true hb23
      refine SW.seq ?_
      refine SW.region ?_
      refine SWl.rd rfl (Rd.assign rfl) ?_
      refine SWl.rd rfl (Rd.assign rfl) ?_
      refine SWl.rd rfl (Rd.assign rfl) ?_
      refine SWl.nil ?_
      refine SN.then ?_
      refine SW.ret (fn := Tryd.f133) (fun _ _ h => h) (Rs.le (Rs.three rfl (ResV.tmp rfl) (ResV.tmp rfl) (ResV.tmp rfl)) ?_)
      rw [c6_l h17 h23]; exact le_nw_tup ⟨le_nw_is, le_nw_is, le_nw_is, trivial⟩
    · have h23 := of_decide_eq_false hb23
      refine SW.skip ?_
      refine SN.then ?_
      refine SW.seq ?_
      refine SW.region ?_
      refine SWl.rd rfl (Rd.move rfl) ?_
      refine SWl.rd rfl (Rd.move rfl) ?_
      refine SWl.rd rfl (Rd.assign rfl) ?_
      refine SWl.rd rfl (Rd.assign rfl) ?_
      refine SWl.rd rfl (Rd.assign rfl) ?_
      refine SWl.nil ?_
      refine SN.then ?_
      refine SW.ret (fn := Tryd.f133) (fun _ _ h => h) (Rs.le (Rs.three rfl (ResV.tmp rfl) (ResV.tmp rfl) (ResV.tmp rfl)) ?_)
      rw [c6_k h17 h23]; exact le_nw_tup ⟨le_nw_is, le_nw_is, le_nw_is, trivial⟩
set_option maxHeartbeats 4000000 in
set_option maxRecDepth 100000 in
theorem con_b6 (p : List UInt8) (hp : p.length ≤ 1000000) (lim : Int) (hl : 0 ≤ lim)  : Con Tryd.prog 118 [bD p, iD lim] (tupD [bD (b6 lim p).1, iD ((b6 lim p).2.1 : Int), iD (b6 lim p).2.2]) := by
  have hcb := c6_bd lim p
  refine con_of Tryd.func118 (by kernel_rfl) rfl (by kernel_rfl) fun base w0 => ?_
  refine SW.seq ?_
  refine SW.region ?_
  refine SWl.rd rfl (Rd.assign rfl) ?_
  refine SWl.rd rfl (Rd.assign rfl) ?_
  refine SWl.rd rfl (Rd.assign rfl) ?_
  refine SWl.nil ?_
  refine SN.then ?_
  refine SW.seq ?_
  refine SW.region ?_
  refine SWl.rd rfl (Rd.move rfl) ?_
  refine SWl.rd rfl (Rd.move rfl) ?_
  refine SWl.ef (S := []) (Ef.callN [] (con_c6 p hp lim hl) rfl ⟨(sees_le (Le.refl _)), (sees_le (Le.refl _)), trivial⟩ rfl) ?_
  rintro _ rfl
  refine SWl.rd rfl (Rd.move rfl) ?_
  refine SWl.rd rfl (Rd.extract rfl rfl) ?_
  refine SWl.rd rfl (Rd.extract rfl rfl) ?_
  refine SWl.rd rfl (Rd.extract rfl rfl) ?_
  refine SWl.rd rfl (Rd.assign rfl) ?_
  refine SWl.rd rfl (Rd.assign rfl) ?_
  refine SWl.rd rfl (Rd.assign rfl) ?_
  refine SWl.nil ?_
  refine SN.then ?_
  refine SW.seq ?_
  refine SW.seq ?_
  refine SW.region ?_
  refine SWl.rd rfl (Rd.move rfl) ?_
  refine SWl.rd rfl (Rd.nei rfl rfl) ?_
  refine SWl.nil ?_
  refine SN.then ?_
  refine SW.cond rfl (fun hb18 => ?_) (fun hb18 => ?_)
  · have h18 : (c6 lim p).2.2 ≠ 0 := by simpa using hb18
    refine SW.seq ?_
    refine SW.region ?_
    refine SWl.rd rfl (Rd.move rfl) ?_
    refine SWl.rd rfl (Rd.assign rfl) ?_
    refine SWl.rd rfl (Rd.assign rfl) ?_
    refine SWl.rd rfl (Rd.assign rfl) ?_
    refine SWl.nil ?_
    refine SN.then ?_
    refine SW.ret (fn := Tryd.f118) (fun _ _ h => h) (Rs.le (Rs.three rfl (ResV.tmp rfl) (ResV.tmp rfl) (ResV.tmp rfl)) ?_)
    rw [b6_e h18]; exact Le.tup ⟨Le.nil_sl, Le.refl _, Le.refl _, trivial⟩
  · have h18 : ¬ (c6 lim p).2.2 ≠ 0 := by simpa using hb18
    refine SW.skip ?_
    refine SN.then ?_
    refine SW.seq ?_
    refine SW.seq ?_
    refine SW.region ?_
    refine SWl.rd rfl (Rd.move rfl) ?_
    refine SWl.rd rfl (Rd.move rfl) ?_
    refine SWl.rd rfl (Rd.len (e := 5) rfl (by kernel_rfl)) ?_
    refine SWl.rd rfl (Rd.move rfl) ?_
    refine SWl.rd rfl (Rd.subi rfl rfl ⟨by (try rw [cellsOf_length]); omega, by (try rw [cellsOf_length]); omega⟩) ?_
    refine SWl.rd rfl (Rd.gtr rfl rfl) ?_
    refine SWl.nil ?_
    refine SN.then ?_
    refine SW.cond rfl (fun hb25 => ?_) (fun hb25 => ?_)
    · have h25 : p.length < (c6 lim p).2.1 + (c6 lim p).1 := by have h25 := of_decide_eq_true hb25; rw [cellsOf_length] at h25; omega
      refine SW.seq ?_
      refine SW.region ?_
      refine SWl.rd rfl (Rd.assign rfl) ?_
      refine SWl.rd rfl (Rd.assign rfl) ?_
      refine SWl.rd rfl (Rd.assign rfl) ?_
      refine SWl.nil ?_
      refine SN.then ?_
      refine SW.ret (fn := Tryd.f118) (fun _ _ h => h) (Rs.le (Rs.three rfl (ResV.tmp rfl) (ResV.tmp rfl) (ResV.tmp rfl)) ?_)
      rw [b6_l h18 h25]; exact Le.tup ⟨Le.nil_sl, Le.refl _, Le.refl _, trivial⟩
    · have h25 : ¬ p.length < (c6 lim p).2.1 + (c6 lim p).1 := by have h25 := of_decide_eq_false hb25; rw [cellsOf_length] at h25; omega
      refine SW.skip ?_
      refine SN.then ?_
      refine SW.seq ?_
      refine SW.region ?_
      refine SWl.rd rfl (Rd.move rfl) ?_
      refine SWl.rd rfl (Rd.move rfl) ?_
      refine SWl.rd rfl (Rd.move rfl) ?_
      refine SWl.rd rfl (Rd.move rfl) ?_
      refine SWl.rd rfl (Rd.mono (Rd.add rfl rfl ⟨by omega, by omega⟩) (show Le _ (iD (((c6 lim p).2.1 + (c6 lim p).1 : Nat) : Int)) from Le.is (by simp))) ?_
      refine SWl.rd rfl (Rd.mono (Rd.slD2 (e := 5) (enc := encB) (lo := (c6 lim p).2.1) (hi := (c6 lim p).2.1 + (c6 lim p).1) 1 rfl (le_b_ls _) rfl rfl (by kernel_rfl) (by kernel_rfl) (by omega) (by omega)) (le_ls_b _)) ?_
      refine SWl.rd rfl (Rd.move rfl) ?_
      refine SWl.rd rfl (Rd.move rfl) ?_
      refine SWl.rd rfl (Rd.mono (Rd.add rfl rfl ⟨by omega, by omega⟩) (show Le _ (iD (((c6 lim p).2.1 + (c6 lim p).1 : Nat) : Int)) from Le.is (by simp))) ?_
      refine SWl.rd rfl (Rd.assign rfl) ?_
      refine SWl.rd rfl (Rd.assign rfl) ?_
      refine SWl.rd rfl (Rd.assign rfl) ?_
      refine SWl.nil ?_
      refine SN.then ?_
      refine SW.ret (fn := Tryd.f118) (fun _ _ h => h) (Rs.le (Rs.three rfl (ResV.tmp rfl) (ResV.tmp rfl) (ResV.tmp rfl)) ?_)
      rw [b6_k h18 h25]; exact Le.tup ⟨by rw [List.drop_take, show (c6 lim p).2.1 + (c6 lim p).1 - (c6 lim p).2.1 = (c6 lim p).1 by omega]; exact Le.refl _, Le.refl _, Le.refl _, trivial⟩
set_option maxHeartbeats 4000000 in
set_option maxRecDepth 100000 in
theorem con_sU (r : RT) (hp : r.p.length ≤ 1000000)  : Con Tryd.prog 81 [aggD [bD r.p, iD r.e]] (tupD [iD (stU r).1, aggD [bD (stU r).2.p, iD (stU r).2.e]]) := by
  have hub := (u6_bd r.p).2
  refine con_of Tryd.func81 (by kernel_rfl) rfl (by kernel_rfl) fun base w0 => ?_
  refine SW.seq ?_
  refine SW.region ?_
  refine SWl.ef (S := []) (Ef.boxA rfl rfl) ?_
  rintro _ ⟨g1, rfl⟩
  refine SWl.rd rfl (Rd.assign rfl) ?_
  refine SWl.ef (S := []) (Ef.alloc (zs := [.slice none 0 0, .int .i64 0]) (by kernel_rfl) rfl) ?_
  rintro _ ⟨g3, rfl⟩
  refine SWl.nil ?_
  refine SN.then ?_
  refine SW.seq ?_
  refine SW.seq ?_
  refine SW.region ?_
  refine SWl.rd rfl (Rd.fieldAddr (n := 1) rfl (by kernel_rfl)) ?_
  refine SWl.rd rfl (Rd.loadB 0 rfl rfl rfl (by kernel_rfl) ap_nil) ?_
  refine SWl.rd rfl (Rd.nei rfl rfl) ?_
  refine SWl.nil ?_
  refine SN.then ?_
  refine SW.cond rfl (fun hb9 => ?_) (fun hb9 => ?_)
  · have he : r.e ≠ 0 := by simpa using hb9
    refine SW.seq ?_
    refine SW.draw (g3 :: []) (.r 0 (.r 1 (.e 2 .fin .no))) (by kernel_rfl) (by kernel_rfl) (fun d _ _ _ _ h => by cases d <;> exact h) ?_
    refine SWz.rd (i := 0) rfl rfl (Rd.loadA 0 2 rfl rfl (by kernel_rfl) rfl (ap_cons 1 rfl (by decide) ap_nil)) ?_
    refine SWz.rd (i := 1) rfl rfl (Rd.assign rfl) ?_
    refine SWz.efe (i := 2) rfl (Ef.storeA 1 rfl rfl rfl (by kernel_rfl) rfl (List.mem_cons_self)) ?_ SWz.no
    rintro _ rfl
    refine SWz.nil ?_
    refine SN.then ?_
    refine SW.ret (fn := Tryd.f81) (fun _ _ h => h) (Rs.le (Rs.two rfl (ResV.tmp rfl) (ResV.cellA 1 rfl rfl (by kernel_rfl))) ?_)
    rw [show stU r = _ from stG_skip he]; exact Le.tup ⟨Le.refl _, Le.refl _, trivial⟩
  · have he : r.e = 0 := by simpa using hb9
    refine SW.skip ?_
    refine SN.then ?_
    refine SW.seq ?_
    refine SW.region ?_
    refine SWl.rd rfl (Rd.fieldAddr (n := 0) rfl (by kernel_rfl)) ?_
    refine SWl.rd rfl (Rd.loadB 0 rfl rfl rfl (by kernel_rfl) ap_nil) ?_
    refine SWl.ef (S := []) (Ef.callN [] (con_u6 r.p hp) rfl ⟨(sees_le (Le.refl _)), trivial⟩ rfl) ?_
    rintro _ rfl
    refine SWl.rd rfl (Rd.move rfl) ?_
    refine SWl.rd rfl (Rd.extract rfl rfl) ?_
    refine SWl.rd rfl (Rd.extract rfl rfl) ?_
    refine SWl.rd rfl (Rd.extract rfl rfl) ?_
    refine SWl.rd rfl (Rd.assign rfl) ?_
    refine SWl.rd rfl (Rd.assign rfl) ?_
    refine SWl.rd rfl (Rd.assign rfl) ?_
    refine SWl.nil ?_
    refine SN.then ?_
    refine SW.seq ?_
    refine SW.seq ?_
    refine SW.region ?_
    refine SWl.rd rfl (Rd.move rfl) ?_
    refine SWl.rd rfl (Rd.nei rfl rfl) ?_
    refine SWl.nil ?_
    refine SN.then ?_
    refine SW.cond rfl (fun hb19 => ?_) (fun hb19 => ?_)
    · have h19 : (u6 r.p).2.2 ≠ 0 := by simpa using hb19
      refine SW.seq ?_
      refine SW.region ?_
      refine SWl.rd rfl (Rd.move rfl) ?_
      refine SWl.rd rfl (Rd.build rfl rfl bldRR1) ?_
      refine SWl.rd rfl (Rd.assign rfl) ?_
      refine SWl.ef (S := [_]) (Ef.storeA 1 rfl rfl rfl (by kernel_rfl) rfl (List.mem_singleton.2 rfl)) ?_
      rintro _ rfl
      refine SWl.nil ?_
      refine SN.then ?_
      refine SW.ret (fn := Tryd.f81) (fun _ _ h => h) (Rs.le (Rs.two rfl (ResV.tmp rfl) (ResV.cellA 1 rfl rfl (by kernel_rfl))) ?_)
      rw [sU_e he h19]; exact Le.tup ⟨Le.refl _, Le.agg ⟨Le.nil_sl, Le.refl _, trivial⟩, trivial⟩
    · have h19 : ¬ (u6 r.p).2.2 ≠ 0 := by simpa using hb19
      refine SW.skip ?_
      refine SN.then ?_
      refine SW.seq ?_
      refine SW.draw (g3 :: []) (.r 0 (.r 1 (.r 2 (.r 3 (.r 4 (.r 5 (.r 6 (.e 7 .fin .no)))))))) (by kernel_rfl) (by kernel_rfl) (fun d _ _ _ _ h => by cases d <;> exact h) ?_
      refine SWz.rd (i := 0) rfl rfl (Rd.move rfl) ?_
      refine SWz.rd (i := 1) rfl rfl (Rd.fieldAddr (n := 0) rfl (by kernel_rfl)) ?_
      refine SWz.rd (i := 2) rfl rfl (Rd.loadB 0 rfl rfl rfl (by kernel_rfl) (ap_cons 1 rfl (by decide) ap_nil)) ?_
      refine SWz.rd (i := 3) rfl rfl (Rd.move rfl) ?_
      refine SWz.rd (i := 4) rfl rfl (Rd.mono (Rd.slD1 (e := 5) (enc := encB) (lo := (u6 r.p).2.1) 1 rfl (le_b_ls _) rfl (by kernel_rfl) (by kernel_rfl) (by omega)) (le_ls_b _)) ?_
      refine SWz.rd (i := 5) rfl rfl (Rd.build rfl rfl bldRR0) ?_
      refine SWz.rd (i := 6) rfl rfl (Rd.assign rfl) ?_
      refine SWz.efe (i := 7) rfl (Ef.storeA 1 rfl rfl rfl (by kernel_rfl) rfl (List.mem_cons_self)) ?_ SWz.no
      rintro _ rfl
      refine SWz.nil ?_
      refine SN.then ?_
      refine SW.ret (fn := Tryd.f81) (fun _ _ h => h) (Rs.le (Rs.two rfl (ResV.tmp rfl) (ResV.cellA 1 rfl rfl (by kernel_rfl))) ?_)
      rw [sU_k he h19]; exact Le.refl _
set_option maxHeartbeats 4000000 in
set_option maxRecDepth 100000 in
theorem con_sP (r : RT) (hp : r.p.length ≤ 1000000) (lim : Int) (hl : 0 ≤ lim)  : Con Tryd.prog 80 [aggD [bD r.p, iD r.e], iD lim] (tupD [bD (stP lim r).1, aggD [bD (stP lim r).2.p, iD (stP lim r).2.e]]) := by
  have hub := b6_bd lim r.p
  refine con_of Tryd.func80 (by kernel_rfl) rfl (by kernel_rfl) fun base w0 => ?_
  refine SW.seq ?_
  refine SW.region ?_
  refine SWl.ef (S := []) (Ef.boxA rfl rfl) ?_
  rintro _ ⟨g2, rfl⟩
  refine SWl.rd rfl (Rd.assign rfl) ?_
  refine SWl.ef (S := []) (Ef.alloc (zs := [.slice none 0 0, .int .i64 0]) (by kernel_rfl) rfl) ?_
  rintro _ ⟨g5, rfl⟩
  refine SWl.nil ?_
  refine SN.then ?_
  refine SW.seq ?_
  refine SW.seq ?_
  refine SW.region ?_
  refine SWl.rd rfl (Rd.fieldAddr (n := 1) rfl (by kernel_rfl)) ?_
  refine SWl.rd rfl (Rd.loadB 0 rfl rfl rfl (by kernel_rfl) ap_nil) ?_
  refine SWl.rd rfl (Rd.nei rfl rfl) ?_
  refine SWl.nil ?_
  refine SN.then ?_
  refine SW.cond rfl (fun hb11 => ?_) (fun hb11 => ?_)
  · have he : r.e ≠ 0 := by simpa using hb11
    refine SW.seq ?_
    refine SW.draw (g5 :: []) (.r 0 (.r 1 (.e 2 .fin .no))) (by kernel_rfl) (by kernel_rfl) (fun d _ _ _ _ h => by cases d <;> exact h) ?_
    refine SWz.rd (i := 0) rfl rfl (Rd.loadA 0 2 rfl rfl (by kernel_rfl) rfl (ap_cons 1 rfl (by decide) ap_nil)) ?_
    refine SWz.rd (i := 1) rfl rfl (Rd.assign rfl) ?_
    refine SWz.efe (i := 2) rfl (Ef.storeA 1 rfl rfl rfl (by kernel_rfl) rfl (List.mem_cons_self)) ?_ SWz.no
    rintro _ rfl
    refine SWz.nil ?_
    refine SN.then ?_
    refine SW.ret (fn := Tryd.f80) (fun _ _ h => h) (Rs.le (Rs.two rfl (ResV.tmp rfl) (ResV.cellA 1 rfl rfl (by kernel_rfl))) ?_)
    rw [show stP lim r = _ from stG_skip he]; exact Le.tup ⟨Le.nil_sl, Le.refl _, trivial⟩
  · have he : r.e = 0 := by simpa using hb11
    refine SW.skip ?_
    refine SN.then ?_
    refine SW.seq ?_
    refine SW.region ?_
    refine SWl.rd rfl (Rd.fieldAddr (n := 0) rfl (by kernel_rfl)) ?_
    refine SWl.rd rfl (Rd.loadB 0 rfl rfl rfl (by kernel_rfl) ap_nil) ?_
    refine SWl.rd rfl (Rd.move rfl) ?_
    refine SWl.ef (S := []) (Ef.call (con_b6 r.p hp lim hl) rfl ⟨Le.refl _, Le.refl _, trivial⟩ rfl) ?_
    rintro _ rfl
    refine SWl.rd rfl (Rd.move rfl) ?_
    refine SWl.rd rfl (Rd.extract rfl rfl) ?_
    refine SWl.rd rfl (Rd.extract rfl rfl) ?_
    refine SWl.rd rfl (Rd.extract rfl rfl) ?_
    refine SWl.rd rfl (Rd.assign rfl) ?_
    refine SWl.rd rfl (Rd.assign rfl) ?_
    refine SWl.rd rfl (Rd.assign rfl) ?_
    refine SWl.nil ?_
    refine SN.then ?_
    refine SW.seq ?_
    refine SW.seq ?_
    refine SW.region ?_
    refine SWl.rd rfl (Rd.move rfl) ?_
    refine SWl.rd rfl (Rd.nei rfl rfl) ?_
    refine SWl.nil ?_
    refine SN.then ?_
    refine SW.cond rfl (fun hb22 => ?_) (fun hb22 => ?_)
    · have h22 : (b6 lim r.p).2.2 ≠ 0 := by simpa using hb22
      refine SW.seq ?_
      refine SW.region ?_
      refine SWl.rd rfl (Rd.move rfl) ?_
      refine SWl.rd rfl (Rd.build rfl rfl bldRR1) ?_
      refine SWl.rd rfl (Rd.assign rfl) ?_
      refine SWl.ef (S := [_]) (Ef.storeA 1 rfl rfl rfl (by kernel_rfl) rfl (List.mem_singleton.2 rfl)) ?_
      rintro _ rfl
      refine SWl.nil ?_
      refine SN.then ?_
      refine SW.ret (fn := Tryd.f80) (fun _ _ h => h) (Rs.le (Rs.two rfl (ResV.tmp rfl) (ResV.cellA 1 rfl rfl (by kernel_rfl))) ?_)
      rw [sP_e he h22]; exact Le.tup ⟨Le.nil_sl, Le.agg ⟨Le.nil_sl, Le.refl _, trivial⟩, trivial⟩
    · have h22 : ¬ (b6 lim r.p).2.2 ≠ 0 := by simpa using hb22
      refine SW.skip ?_
      refine SN.then ?_
      refine SW.seq ?_
      refine SW.draw (g5 :: []) (.r 0 (.r 1 (.r 2 (.r 3 (.r 4 (.r 5 (.r 6 (.e 7 .fin .no)))))))) (by kernel_rfl) (by kernel_rfl) (fun d _ _ _ _ h => by cases d <;> exact h) ?_
      refine SWz.rd (i := 0) rfl rfl (Rd.move rfl) ?_
      refine SWz.rd (i := 1) rfl rfl (Rd.fieldAddr (n := 0) rfl (by kernel_rfl)) ?_
      refine SWz.rd (i := 2) rfl rfl (Rd.loadB 0 rfl rfl rfl (by kernel_rfl) (ap_cons 1 rfl (by decide) ap_nil)) ?_
      refine SWz.rd (i := 3) rfl rfl (Rd.move rfl) ?_
      refine SWz.rd (i := 4) rfl rfl (Rd.mono (Rd.slD1 (e := 5) (enc := encB) (lo := (b6 lim r.p).2.1) 1 rfl (le_b_ls _) rfl (by kernel_rfl) (by kernel_rfl) (by omega)) (le_ls_b _)) ?_
      refine SWz.rd (i := 5) rfl rfl (Rd.build rfl rfl bldRR0) ?_
      refine SWz.rd (i := 6) rfl rfl (Rd.assign rfl) ?_
      refine SWz.efe (i := 7) rfl (Ef.storeA 1 rfl rfl rfl (by kernel_rfl) rfl (List.mem_cons_self)) ?_ SWz.no
      rintro _ rfl
      refine SWz.nil ?_
      refine SN.then ?_
      refine SW.ret (fn := Tryd.f80) (fun _ _ h => h) (Rs.le (Rs.two rfl (ResV.tmp rfl) (ResV.cellA 1 rfl rfl (by kernel_rfl))) ?_)
      rw [sP_k he h22]; exact Le.refl _
set_option maxHeartbeats 4000000 in
set_option maxRecDepth 100000 in
theorem con_sEnd (r : RT) (hp : r.p.length ≤ 1000000)  : Con Tryd.prog 82 [aggD [bD r.p, iD r.e]] (iD (endE r)) := by
  refine con_of Tryd.func82 (by kernel_rfl) rfl (by kernel_rfl) fun base w0 => ?_
  refine SW.seq ?_
  refine SW.region ?_
  refine SWl.ef (S := []) (Ef.boxA rfl rfl) ?_
  rintro _ ⟨g1, rfl⟩
  refine SWl.rd rfl (Rd.assign rfl) ?_
  refine SWl.nil ?_
  refine SN.then ?_
  refine SW.seq ?_
  refine SW.seq ?_
  refine SW.region ?_
  refine SWl.rd rfl (Rd.fieldAddr (n := 1) rfl (by kernel_rfl)) ?_
  refine SWl.rd rfl (Rd.loadB 0 rfl rfl rfl (by kernel_rfl) ap_nil) ?_
  refine SWl.rd rfl (Rd.eqi rfl rfl) ?_
  refine SWl.rd rfl (Rd.move rfl) ?_
  refine SWl.split 6 rfl (fun hb6 => ?_) (fun hb6 => ?_)
  · have h6 := of_decide_eq_true hb6
    refine SWl.rdg rfl rfl (hb6) rfl rfl (Rd.fieldAddr (n := 0) rfl (by kernel_rfl)) ?_
    refine SWl.rdg rfl rfl (hb6) rfl rfl (Rd.loadB 0 rfl rfl rfl (by kernel_rfl) ap_nil) ?_
    refine SWl.rdg rfl rfl (hb6) rfl rfl (Rd.len (e := 5) rfl (by kernel_rfl)) ?_
    refine SWl.rdg rfl rfl (hb6) rfl rfl (Rd.gtr rfl rfl) ?_
    refine SWl.rd rfl (Rd.pickY rfl (hb6) rfl) ?_
    refine SWl.nil ?_
    refine SN.then ?_
    refine SW.cond rfl (fun hb11 => ?_) (fun hb11 => ?_)
    · have h11 : r.p ≠ [] := by (rintro hp0; rw [hp0] at hb11; simp at hb11)
      refine SW.seq ?_
      refine SW.region ?_
      refine SWl.rd rfl (Rd.assign rfl) ?_
      refine SWl.nil ?_
      refine SN.then ?_
      refine SW.ret (fn := Tryd.f82) (fun _ _ h => h) (Rs.le (Rs.one rfl (ResV.tmp rfl)) ?_)
      exact Le.is (by unfold endE; rw [if_pos ⟨h6, h11⟩])
    · have h11 : r.p = [] := List.eq_nil_of_length_eq_zero (by have h := of_decide_eq_false hb11; rw [cellsOf_length] at h; omega)
      refine SW.skip ?_
      refine SN.then ?_
      refine SW.seq ?_
      refine SW.region ?_
      refine SWl.rd rfl (Rd.fieldAddr (n := 1) rfl (by kernel_rfl)) ?_
      refine SWl.rd rfl (Rd.loadB 0 rfl rfl rfl (by kernel_rfl) ap_nil) ?_
      refine SWl.rd rfl (Rd.assign rfl) ?_
      refine SWl.nil ?_
      refine SN.then ?_
      refine SW.ret (fn := Tryd.f82) (fun _ _ h => h) (Rs.le (Rs.one rfl (ResV.tmp rfl)) ?_)
      exact Le.is (by unfold endE; rw [if_neg (fun h => h.2 h11)])
  · have h6 := of_decide_eq_false hb6
    refine SWl.off rfl rfl (hb6) rfl rfl ?_
    refine SWl.off rfl rfl (hb6) rfl rfl ?_
    refine SWl.off rfl rfl (hb6) rfl rfl ?_
    refine SWl.off rfl rfl (hb6) rfl rfl ?_
    refine SWl.rd rfl (Rd.pickN rfl (hb6) rfl) ?_
    refine SWl.nil ?_
    refine SN.then ?_
    refine SW.condF rfl (rfl) ?_
    refine SW.skip ?_
    refine SN.then ?_
    refine SW.seq ?_
    refine SW.region ?_
    refine SWl.rd rfl (Rd.fieldAddr (n := 1) rfl (by kernel_rfl)) ?_
    refine SWl.rd rfl (Rd.loadB 0 rfl rfl rfl (by kernel_rfl) ap_nil) ?_
    refine SWl.rd rfl (Rd.assign rfl) ?_
    refine SWl.nil ?_
    refine SN.then ?_
    refine SW.ret (fn := Tryd.f82) (fun _ _ h => h) (Rs.le (Rs.one rfl (ResV.tmp rfl)) ?_)
    exact Le.is (by unfold endE; rw [if_neg (fun h => h6 h.1)])
end Sx
end Go.Proofs.YtchbgfgboogniaaDoor
namespace Go.Proofs.YtchbgfgboogniaaDoor
open Go.RowKit
namespace Sx
theorem rdg_grp : ∀ (j n : Nat) (f : Bool) (p : List UInt8), n < 128 ^ (j + 1) → (n = 0 → f = true) → rdg (j + 1) f (grp n ++ p) = .ok (n, (grp n).length)
  | 0, n, f, p, h, h0 => by
    have hn : n < 128 := by simpa using h
    rw [grp_lt hn, List.singleton_append]
    unfold rdg
    rw [u8_nat (by omega), if_pos hn, if_neg (fun hc => by rw [h0 hc.1] at hc; cases hc.2)]
    rfl
  | j + 1, n, f, p, h, h0 => by
    by_cases hn : n < 128
    · rw [grp_lt hn, List.singleton_append]
      unfold rdg
      rw [u8_nat (by omega), if_pos hn, if_neg (fun hc => by rw [h0 hc.1] at hc; cases hc.2)]
      rfl
    · rw [grp_ge hn, List.cons_append]
      unfold rdg
      rw [u8_nat (by omega), if_neg (by omega), rdg_grp j (n / 128) false p (Nat.div_lt_of_lt_mul (by rw [Nat.pow_succ] at h; omega)) (fun h => by omega)]
      simp only [List.length_cons]
      congr 2
      omega
theorem rdg_inv : ∀ {j : Nat} {f : Bool} {p : List UInt8} {n m : Nat}, rdg j f p = .ok (n, m) → p.take m = grp n ∧ (f = false → 0 < n)
  | 0, f, p, n, m, h => by rw [rdg_zero] at h; cases h
  | j + 1, f, [], n, m, h => by cases h
  | j + 1, f, c :: p, n, m, h => by
    unfold rdg at h
    by_cases hc : c.toNat < 128
    · rw [if_pos hc] at h
      by_cases h0 : c.toNat = 0 ∧ f = false
      · rw [if_pos h0] at h; cases h
      · rw [if_neg h0] at h
        injection h with h
        injection h with h1 h2
        subst h1 h2
        refine ⟨?_, fun hf => ?_⟩
        · rw [grp_lt hc, UInt8.ofNat_toNat]; rfl
        · rcases Nat.eq_zero_or_pos c.toNat with h | h
          · exact absurd ⟨h, hf⟩ h0
          · exact h
    · rw [if_neg hc] at h
      rcases hr : rdg j false p with e | ⟨n', m'⟩
      · rw [hr] at h; cases h
      · rw [hr] at h
        injection h with h
        injection h with h1 h2
        subst h1 h2
        obtain ⟨i1, i2⟩ := rdg_inv hr
        have hp := i2 rfl
        have hcl := u8_lt (c := c)
        refine ⟨?_, fun _ => by omega⟩
        rw [grp_ge (by omega), List.take_succ_cons, i1, show (c.toNat - 128 + 128 * n') % 128 + 128 = c.toNat by omega, show (c.toNat - 128 + 128 * n') / 128 = n' by omega, UInt8.ofNat_toNat]
theorem pow9 {n : Nat} (h : n < 9223372036854775808) : n < 128 ^ (8 + 1) := Nat.lt_of_lt_of_le h (by decide)
theorem stU_grp {n : Nat} {q : List UInt8} (h : n < 9223372036854775808) : stU ⟨grp n ++ q, 0⟩ = ((n : Int), ⟨q, 0⟩) := by
  rw [show stU ⟨grp n ++ q, 0⟩ = _ from stG_ok rfl (rdg_grp 8 n true q (pow9 h) (fun _ => rfl))]
  simp
theorem stP_strE {lim : Int} {b q : List UInt8} (h : b.length < 9223372036854775808) (hl : (b.length : Int) ≤ lim) : stP lim ⟨strE b ++ q, 0⟩ = (b, ⟨q, 0⟩) := by
  have hr : rdP lim (strE b ++ q) = .ok (b, (grp b.length).length + b.length) := by
    unfold rdP rdC strE
    rw [List.append_assoc, rdg_grp 8 b.length true (b ++ q) (pow9 h) (fun _ => rfl)]
    simp only
    rw [if_neg (by omega)]
    simp only
    rw [if_neg (by simp only [List.length_append]; omega)]
    simp
  rw [show stP lim ⟨strE b ++ q, 0⟩ = _ from stG_ok rfl hr]
  unfold strE
  rw [← List.length_append]
  simp
theorem stU_inv {r : RT} (h : (stU r).2.e = 0) : r.e = 0 ∧ ∃ n : Nat, (stU r).1 = n ∧ r.p = grp n ++ (stU r).2.p ∧ n < 9223372036854775808 := by
  by_cases h0 : r.e = 0
  · refine ⟨h0, ?_⟩
    rcases hr : rdg 9 true r.p with E | ⟨n, m⟩
    · rw [show stU r = _ from stG_bad h0 hr] at h
      exact absurd h (rdg_ne hr)
    · rw [show stU r = _ from stG_ok h0 hr]
      exact ⟨n, rfl, by rw [← (rdg_inv hr).1, List.take_append_drop], Nat.lt_of_lt_of_le (rdg_bd hr).1 (by decide)⟩
  · rw [show stU r = _ from stG_skip h0] at h
    exact absurd h h0
theorem stP_inv {lim : Int} {r : RT} (h : (stP lim r).2.e = 0) : r.e = 0 ∧ r.p = strE (stP lim r).1 ++ (stP lim r).2.p ∧ ((stP lim r).1.length : Int) ≤ lim := by
  by_cases h0 : r.e = 0
  · refine ⟨h0, ?_⟩
    rcases hr : rdP lim r.p with E | ⟨q, m⟩
    · rw [show stP lim r = _ from stG_bad h0 hr] at h
      exact absurd h (rdP_ne hr)
    · rw [show stP lim r = _ from stG_ok h0 hr]
      obtain ⟨n, k, h1, h2, rfl, rfl⟩ := rdP_ok hr
      obtain ⟨h3, h4⟩ := rdC_ok h1
      have hl : ((r.p.drop k).take n).length = n := by rw [List.length_take, List.length_drop]; omega
      refine ⟨?_, by simp only; rw [hl]; exact h4⟩
      simp only
      unfold strE
      rw [hl, ← (rdg_inv h3).1, ← List.drop_drop, List.append_assoc, List.take_append_drop, List.take_append_drop]
  · rw [show stP lim r = _ from stG_skip h0] at h
    exact absurd h h0
end Sx
end Go.Proofs.YtchbgfgboogniaaDoor
