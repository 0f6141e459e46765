/-
  LEDGERS: Root, its bytes one's own.
-/
import Derived.Test.YtonjpfpdpfonnaaDoorL36
import Derived.Test.YtonjpfpdpfonnaaDoorSyW
namespace Go.Proofs.YtonjpfpdpfonnaaDoor
open Go.RowKit
namespace Sx
set_option maxHeartbeats 4000000 in
set_option maxRecDepth 100000 in
theorem con_rootO (es : List Led.Ent) (hn : es.length ≤ 100000) (n : Nat) (h : n ≤ es.length) : ConR Tryd.prog 13 [] [ledD es, iD (n : Int)] (fun t : Vst => [.r t.F (vecT 5 1 encB t.A t.c (Led.root HH (es.take n)))]) (fun t : Vst => tupD [isD (.slice t.A (Led.root HH (es.take n)).length t.c), iD 0]) := by
  refine con_ofR Tryd.func13 (by kernel_rfl) rfl (by kernel_rfl) fun base w0 => ?_
  refine SW.seq ?_
  refine SW.region ?_
  refine SWl.rd rfl (Rd.assign rfl) ?_
  refine SWl.rd rfl (Rd.assign rfl) ?_
  refine SWl.nil ?_
  refine SN.then ?_
  refine SW.seq ?_
  refine SW.seq ?_
  refine SW.region ?_
  refine SWl.rd rfl (Rd.move rfl) ?_
  refine SWl.rd rfl (Rd.eqPA rfl rfl (by kernel_rfl)) ?_
  refine SWl.nil ?_
  refine SN.then ?_
  refine SW.condF rfl (rfl) ?_
  refine SW.skip ?_
  refine SN.then ?_
  refine SW.seq ?_
  refine SW.seq ?_
  refine SW.region ?_
  refine SWl.rd rfl (Rd.move rfl) ?_
  refine SWl.rd rfl (Rd.lss rfl rfl) ?_
  refine SWl.rd rfl (Rd.move rfl) ?_
  refine SWl.rdg rfl rfl (by simp) rfl rfl (Rd.move rfl) ?_
  refine SWl.rdg rfl rfl (by simp) rfl rfl (Rd.move rfl) ?_
  refine SWl.rdg rfl rfl (by simp) rfl rfl (Rd.nilCheckP rfl) ?_
  refine SWl.rdg rfl rfl (by simp) rfl rfl (Rd.fieldR (n := 0) rfl (by kernel_rfl) (show 0 < 2 by decide)) ?_
  refine SWl.rdg rfl rfl (by simp) rfl rfl (Rd.loadR rfl rfl (by kernel_rfl) (by simp)) ?_
  refine SWl.rdg rfl rfl (by simp) rfl rfl (Rd.lenR (e := 44) rfl (by kernel_rfl)) ?_
  refine SWl.rdg rfl rfl (by simp) rfl rfl (Rd.gtr rfl rfl) ?_
  refine SWl.rd rfl (Rd.pickN rfl (by simp) rfl) ?_
  refine SWl.nil ?_
  refine SN.then ?_
  refine SW.condF rfl (by simp; omega) ?_
  refine SW.skip ?_
  refine SN.then ?_
  refine SW.seq ?_
  refine SW.region ?_
  refine SWl.rd rfl (Rd.move rfl) ?_
  refine SWl.rd rfl (Rd.move rfl) ?_
  refine SWl.ef (S := []) (Ef.callN [] (con_span es hn n 0 (by omega)) rfl ⟨(sees_le (Le.refl _)), (sees_le (Le.refl _)), (sees_le (Le.refl _)), trivial⟩ rfl) ?_
  rintro _ rfl
  refine SWl.ef (S := []) (Ef.alloc (zs := cellsOf (List.replicate 32 0)) (by kernel_rfl) rfl) ?_
  rintro _ ⟨g6, rfl⟩
  refine SWl.ef (S := [_]) (Ef.storeG 0 32 rfl rfl rfl (by kernel_rfl) (by first | assumption | (simp; done) | (simp; omega)) (by first | assumption | (simp; done) | (simp; omega)) (List.mem_singleton.2 rfl)) ?_
  rintro _ rfl
  refine SWl.nil ?_
  refine SN.then ?_
  refine SW.seq ?_
  refine SW.region ?_
  refine SWl.rd rfl (Rd.slArr (e := 5) (n := 32) rfl (by kernel_rfl) (by kernel_rfl)) ?_
  refine SWl.ef (S := []) (Ef.callRS [0] (con_cloneBO (Led.root HH (es.take n)) (by simp)) (fun _ => inferInstance) (fun _ b hb => by simp at hb; subst hb; infer_instance) rfl ⟨(sees_digest 0 rfl (by decide) (by first | assumption | (simp; done) | (simp; omega))), trivial⟩ rfl) ?_
  rintro _ ⟨s24, rfl⟩
  refine SWl.rd rfl (Rd.assign rfl) ?_
  refine SWl.rd rfl (Rd.assign rfl) ?_
  refine SWl.nil ?_
  refine SN.then ?_
  refine SW.retR (fn := Tryd.f13) (s24) [1] (fun _ _ h => h) (Rs.two rfl (ResV.tmp rfl) (ResV.tmp rfl)) (by decide) ⟨⟨_, rfl, LeR.refl _⟩, trivial⟩
end Sx
end Go.Proofs.YtonjpfpdpfonnaaDoor
