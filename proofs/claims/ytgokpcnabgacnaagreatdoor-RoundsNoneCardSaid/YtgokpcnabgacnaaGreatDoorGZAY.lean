/- ROUNDS: append, the closures of Submit (1). ROUNDS: the closures of Submit (2), steps. -/
import Derived.Test.YtgokpcnabgacnaaGreatDoorGZAX
set_option maxHeartbeats 8000000
set_option maxRecDepth 100000
namespace Go.Proofs.YtgokpcnabgacnaaGreatDoor
open Go.RowKit
namespace Sx
theorem con_checkP {gb : Nat} {l : List Acc.T} {F : List Nat} (e : Env.T) (hf : Acc.Fine l) : ConR Tryz.prog 69 [.r F (bkP gb l)] [pA gb, yX [yt e.acc, iD e.rnd, iD e.ser, bD e.box, bD e.tag]] (fun F' : List Nat => [.r F' (bkP gb l)]) (fun _ => iD (Env.autE l e)) :=
 ConR.bkK fun s => con_checkE gb s l e hf
theorem mps_at {es : List Env.T} {Ms : List (Option Nat)} {i : Nat} {M : Option Nat} (h : Ms[i]? = some M) : (mps es Ms)[i]? = some (zX M yq (Rnd.keysE es i) (envD es i)) := by
 unfold mps
 rw [List.getElem?_mapIdx, h]
 rfl
theorem envD_some {es : List Env.T} {i : Nat} {nm : List UInt8} {x : Env.T} (h : Rnd.getE es i nm = some x) : envD es i nm = yX (encEn x) := by unfold envD; rw [h]; rfl
theorem tup_env {es : List Env.T} {i : Nat} {nm : List UInt8} {x : Env.T} (h : Rnd.getE es i nm = some x) : Le (Yq [envD es i nm, isD (.bool true)]) (Yq [yX (encEn x), yY true]) := by rw [envD_some h]; exact zf _
theorem tup_envz : Le (Yq [isD (.agg #[.string ⟨#[]⟩, .int .i64 0, .int .i64 0, .slice none 0 0, .slice none 0 0]), isD (.bool false)]) (Yq [yX [yt [], iD 0, iD 0, isD (.slice none 0 0), isD (.slice none 0 0)], yY false]) :=
 yJ ⟨le_is_agg (vs := [.string ⟨#[]⟩, .int .i64 0, .int .i64 0, .slice none 0 0, .slice none 0 0]), zf _, trivial⟩
theorem rest_back {es : List Env.T} {Ms : List (Option Nat)} {i : Nat} {M : Option Nat} (h : Ms[i]? = some M) : (mps es Ms).set i (zX M yq (Rnd.keysE es i) (envD es i)) = mps es Ms := by
 have h1 := mps_at (es := es) h
 obtain ⟨h2, h3⟩ := List.getElem?_eq_some_iff.1 h1
 rw [← h3, List.set_getElem_self]
theorem row_back {es : List Env.T} {Ms : List (Option Nat)} {i : Nat} {M : Option Nat} {F G : List Nat} (h : Ms[i]? = some M) : Opens [.r G (zX M yq (Rnd.keysE es i) (envD es i)), .r F (restR (mps es Ms) i)] (fun q => ∃ F', q = [.r F' (rowR (mps es Ms))]) := by
 have h1 := mps_at (es := es) h
 have h2 := closes_row (G := G) (F := F) (Rs := mps es Ms) (i := i) (R := zX M yq (Rnd.keysE es i) (envD es i)) (List.getElem?_eq_some_iff.1 h1).1
 rw [rest_back h] at h2
 exact h2
theorem con_rappend (gr gl gw : Nat) (p0 : Addr) (ws : List Rnd.Win) (ck : Int) (A : Option Addr) (n c : Nat) (M : Option Nat) (F : List Nat) (es es2 : List Led.Ent) (k E : Int) (t : Ust) (o : List UInt8) (ho : o.length ≤ 65536) (hn : es.length ≤ 100000) (he : es2 = Led.app es k o) (hE : E = yI es k o) : ConR Tryz.prog 75 [.c gr [isD (.pointer (some p0)), lsD encW ws, iD ck, pA gl, isD (.slice A n c), isD (.map M)], .r F (ldP gl es), .c gw [iD 0, isD (.slice t.A (o).length t.c)], .r t.F (yb 5 1 Z2 t.A t.c (o))] [pA gr, iD k, pA gw] (fun F' : List Nat => [.c gr [isD (.pointer (some p0)), lsD encW ws, iD ck, pA gl, isD (.slice A n c), isD (.map M)], .r F' (ldP gl es2), .c gw [iD 0, isD (.slice t.A (o).length t.c)], .r t.F (yb 5 1 Z2 t.A t.c (o))]) (fun F' : List Nat => iD E) := by
 refine zY Tryz.func75 k9 rfl k9 fun base w0 => (zh (zb (za rfl (ze rfl) (zg (zc (zh (zb (za rfl (zd rfl) (zk (zB [2, 3] (con_wEnd gw t o ho) rfl ⟨zf _, trivial⟩ d9 (sX rfl) (fun _ h => h) rfl) ?_)))))))))
 rintro _ ⟨⟨⟩, rfl⟩
 refine za rfl (zd rfl) (za rfl (zq rfl rfl) (za rfl (zq rfl rfl) (za rfl (ze rfl) (za rfl (ze rfl) (zg (zc (zh (zh (zb (za rfl (zd rfl) (za rfl (yd rfl rfl) (zg (zc (zE rfl d9 (zu (zc (zh (zb (za rfl (zd rfl) (za rfl (zw rfl) (za rfl (zi (n := 3) rfl k9) (za rfl (zl 0 rfl rfl rfl k9 zp) (za rfl (zd rfl) (za rfl (zd rfl) (za rfl (yh rfl rfl bldE2) (zk (zB [1] (con_appendP hn he) rfl ⟨zf _, zf _, trivial⟩ d9 ⟨lR rfl, trivial⟩ (fun _ h => h) rfl) ?_))))))))))))))))))))))))))
 rintro _ ⟨F25, rfl⟩
 refine za rfl (zd rfl) (za rfl (zq rfl rfl) (za rfl (zq rfl rfl) (za rfl (ze rfl) (zg (zc (zh (zb (za rfl (zd rfl) (za rfl (ze rfl) (zg (zc (zS (fn := Tryz.f75) (F25) [0, 3, 1, 2] (fun _ _ h => h) (Rs.le (Rs.one rfl (zo rfl)) ?_) d9 (sX rfl)))))))))))))
 exact zC (by rw [hE])
theorem con_sub1 (gr q3 q4 q5 : Nat) (F : List Nat) (s : Rnd.S) (e : Env.T) (now : Int) (hg : Rnd.Good s) (hh : Rnd.has s e.rnd) : ConR Tryz.prog 67 [.c q3 [pA gr], .c q4 [yt e.acc, iD e.rnd, iD e.ser, bD e.box, bD e.tag], .c q5 [iD now], .r F (Zu gr s)] [pA q3, pA q4, pA q5] (fun F' : List Nat => [.c q3 [pA gr], .c q4 [yt e.acc, iD e.rnd, iD e.ser, bD e.box, bD e.tag], .c q5 [iD now], .r F' (Zu gr s)]) (fun F' : List Nat => iD (unE (decide (Rnd.st s e.rnd.toNat now = 2)) 8)) := by
 obtain ⟨w, hw⟩ : ∃ w, s.ws[e.rnd.toNat]? = some w := ⟨_, List.getElem?_eq_getElem (by have := hh.2; have := hh.1; omega)⟩
 refine zY Tryz.func67 k9 rfl k9 fun base w0 => (zh (zK (ZJ (gr := gr) (s := s)) [3] d9 ⟨lR rfl, trivial⟩ ?_))
 rintro _ ⟨t, rfl⟩
 refine zb (za rfl (ze rfl) (zg (zc (zh (zb (za rfl (zl 0 rfl rfl rfl k9 zp) (za rfl (zi (n := 1) rfl k9) (za rfl (zl 1 rfl rfl rfl k9 zp) (za rfl (zl 2 rfl rfl rfl k9 zp) (zk (S := []) (zA [3, 8] (con_state _ _ s.ws s.ck _ _ _ s.ks e.rnd now w hh.1 hw) rfl ⟨(yL 3 rfl d9 ⟨(zr (zf _)), (zr (zf _)), (zr (zf _)), (zr (zf _)), (zr (zf _)), (yx 8 rfl d9), trivial⟩), (zr (zf _)), (zr (zf _)), trivial⟩ rfl) ?_))))))))))
 rintro _ rfl
 refine za rfl (yP rfl rfl) (zk (S := []) (zB [] (yS (decide (Rnd.stOf w (Rnd.kyAt s.ks e.rnd.toNat) now = 2)) 8) rfl ⟨zf _, zf _, trivial⟩ d9 trivial (fun _ h => h) rfl) ?_)
 rintro _ ⟨⟨ua, ub⟩, rfl⟩
 refine zk (yw (cap := [.pointer (some ⟨ua, 0, none⟩), .pointer (some ⟨ub, 0, none⟩)]) [9, 10] (Z8 ua ub (decide (Rnd.stOf w (Rnd.kyAt s.ks e.rnd.toNat) now = 2)) 8) rfl rfl ⟨zf _, zf _, trivial⟩ d9 (sX rfl) (fun _ h => h) rfl) ?_
 rintro _ ⟨⟨⟩, rfl⟩
 refine za rfl (ze rfl) (zg (zc (zK (Zt (gr := gr) (s := s) t.1 (t.2)) [3, 4, 5, 6, 7, 8] d9 (sX rfl) ?_)))
 rintro _ ⟨Fr, rfl⟩
 refine zS (fn := Tryz.f67) (Fr) [0, 1, 2, 5] (fun _ _ h => h) (Rs.le (Rs.one rfl (zo rfl)) ?_) d9 (sX rfl)
 exact zC (by rw [Rnd.st, Rnd.winAt_some hw])
theorem con_sub2 (gr q3 q4 q5 : Nat) (F : List Nat) (s : Rnd.S) (e : Env.T) (now : Int) (hg : Rnd.Good s)  : ConR Tryz.prog 68 [.c q3 [pA gr], .c q4 [yt e.acc, iD e.rnd, iD e.ser, bD e.box, bD e.tag], .c q5 [iD now], .r F (Zu gr s)] [pA q3, pA q4] (fun F' : List Nat => [.c q3 [pA gr], .c q4 [yt e.acc, iD e.rnd, iD e.ser, bD e.box, bD e.tag], .c q5 [iD now], .r F' (Zu gr s)]) (fun F' : List Nat => iD (Env.autE s.bk e)) := by
 refine zY Tryz.func68 k9 rfl k9 fun base w0 => (zh (zK (ZJ (gr := gr) (s := s)) [3] d9 ⟨lR rfl, trivial⟩ ?_))
 rintro _ ⟨t, rfl⟩
 refine zb (za rfl (ze rfl) (zg (zc (zh (yj (t.1.Fb ++ []) (.r 0 (.r 1 (.r 2 (.r 3 (.r 4 (.e 5 (.r 6 .fin) .no)))))) k9 k9 (fun d _ _ _ _ h => by cases d <;> exact h) (zj rfl rfl (zl 0 rfl rfl rfl k9 (yl 4 rfl d9 zp)) (zj rfl rfl (zw rfl) (zj rfl rfl (zi (n := 0) rfl k9) (zj rfl rfl (zl 3 rfl rfl rfl k9 (yl 4 rfl d9 zp)) (zj rfl rfl (zG 1 5 rfl rfl k9 rfl (yl 4 rfl d9 zp)) (zZ rfl (zB [4] (con_checkP e hg.fine) rfl ⟨zf _, zf _, trivial⟩ d9 ⟨lR rfl, trivial⟩ (fun _ h => h) rfl) ?_ zI)))))))))))
 rintro _ ⟨F8, rfl⟩
 refine zj rfl rfl (ze rfl) (zV (zc (zK (Zt (gr := gr) (s := s) { t.1 with Fb := F8 } (t.2)) [3, 8, 4, 5, 6, 7] d9 (sX rfl) ?_)))
 rintro _ ⟨Fr, rfl⟩
 refine zS (fn := Tryz.f68) (Fr) [0, 1, 2, 3] (fun _ _ h => h) (Rs.le (Rs.one rfl (zo rfl)) ?_) d9 (sX rfl)
 exact zf _
theorem con_sub3 (gr q3 q4 q5 : Nat) (F : List Nat) (s : Rnd.S) (e : Env.T) (now : Int) (hg : Rnd.Good s) (hh : Rnd.has s e.rnd) : ConR Tryz.prog 70 [.c q3 [pA gr], .c q4 [yt e.acc, iD e.rnd, iD e.ser, bD e.box, bD e.tag], .c q5 [iD now], .r F (Zu gr s)] [pA q3, pA q4] (fun F' : List Nat => [.c q3 [pA gr], .c q4 [yt e.acc, iD e.rnd, iD e.ser, bD e.box, bD e.tag], .c q5 [iD now], .r F' (Zu gr s)]) (fun F' : List Nat => iD (Rnd.busyE s.es e)) := by
 obtain ⟨i, hi⟩ : ∃ i : Nat, e.rnd = (i : Int) := ⟨e.rnd.toNat, by have := hh.1; omega⟩
 refine zY Tryz.func70 k9 rfl k9 fun base w0 => (zh (zK (ZJ (gr := gr) (s := s)) [3] d9 ⟨lR rfl, trivial⟩ ?_))
 rintro _ ⟨t, rfl⟩
 obtain ⟨M, hM⟩ : ∃ M, t.1.Ms[i]? = some M := ⟨_, List.getElem?_eq_getElem (by have := t.2; have := hh.2; omega)⟩
 refine zK (opens_row (mps_at (es := s.es) hM)) [7] d9 ⟨lR rfl, trivial⟩ ?_
 rintro _ ⟨Gi, Fm, rfl⟩
 refine zb (za rfl (ze rfl) (zg (zc (zh ?_))))
 rcases hx : Rnd.getE s.es i e.acc with _ | x
 ·skip
  refine yj [] (.r 0 (.r 1 (.r 2 (.r 3 (.r 4 (.r 5 (.r 6 (.r 7 (.r 8 (.r 9 (.r 10 (.r 11 (.r 12 (.r 13 (.n 14 (.e 15 (.r 16 .fin) .no) .no))))))))))))))) k9 k9 (fun d _ _ _ _ h => by cases d <;> exact h) (zj rfl rfl (zl 0 rfl rfl rfl k9 zp) (zj rfl rfl (zw rfl) (zj rfl rfl (zi (n := 4) rfl k9) (zj rfl rfl (zl 3 rfl rfl rfl k9 zp) (zj rfl rfl (zi (n := 1) rfl k9) (zj rfl rfl (zl 1 rfl rfl rfl k9 zp) (zj rfl rfl (Rd.idxT 6 1 rfl rfl rfl k9 k9 o9 (by rw [hi]; have := t.2; have := hh.2; omega)) (zj rfl rfl (Rd.loadT1 6 rfl rfl k9 (show t.1.Ms[e.rnd.toNat]? = some M by rw [hi]; exact hM) rfl zp) (zj rfl rfl (zi (n := 0) rfl k9) (zj rfl rfl (zl 1 rfl rfl rfl k9 zp) (zj rfl rfl ((Rd.mono (Rd.lookQN (kt := 9) (et := 58) (z := .agg #[.string ⟨#[]⟩, .int .i64 0, .int .i64 0, .slice none 0 0, .slice none 0 0]) (ok := true) 8 rfl rfl rfl (show Le (yt e.acc) (isD (yq e.acc)) from zf _) k9 k9 (keyNm6 _) (fun h => by obtain ⟨y, hy⟩ := Rnd.mem_keysE.1 h; rw [hx] at hy; cases hy) zp) tup_envz)) (zj rfl rfl (zd rfl) (zj rfl rfl (zq rfl rfl) (zj rfl rfl (zq rfl rfl) (Yb rfl (EfB.alloc (zs := [.string ⟨#[]⟩, .int .i64 0, .int .i64 0, .slice none 0 0, .slice none 0 0]) k9 rfl) ?_ zI)))))))))))))))
  rintro g3 _ rfl
  refine zZ rfl (zF 10 rfl rfl rfl k9 rfl (List.mem_append_right _ (List.mem_cons_self))) ?_ zI
  rintro _ rfl
  refine zj rfl rfl (ze rfl) (zV (zc (zh (zO (σ' := zR [(1, pA q4), (3, pA g3), (4, yY false)] [.c q3 [pA gr], .c q4 [yt e.acc, iD e.rnd, iD e.ser, bD e.box, bD e.tag], .c q5 [iD now], .c gr [pA t.1.gb, lsD encW s.ws, iD s.ck, pA t.1.gl, isD (.slice t.1.A t.1.Ms.length t.1.c), isD (.map (some t.1.gk))], .r t.1.Fb (bkP t.1.gb s.bk), .r t.1.Fl (ldP t.1.gl s.en), .r t.1.Fv (yb 133 1 encM t.1.A t.1.c t.1.Ms), .r t.1.Fk (zX (some t.1.gk) encZ (Rnd.rks s.ks) (kyD s.ks)), .r Gi (zX M yq (Rnd.keysE s.es i) (envD s.es i)), .r Fm (restR (mps s.es t.1.Ms) i), .c g3 [yt [], iD 0, iD 0, isD (.slice none 0 0), isD (.slice none 0 0)]]) (sB [0, 1, 2, 3, 4, 5, 6, 7, 8, 9, 10] rfl rfl) (zb (za rfl (zd rfl) (za rfl (yU rfl) (za rfl (zd rfl) (zn rfl rfl (rfl) rfl rfl (zn rfl rfl (rfl) rfl rfl (zn rfl rfl (rfl) rfl rfl (zn rfl rfl (rfl) rfl rfl (zn rfl rfl (rfl) rfl rfl (za rfl (zz rfl (rfl) rfl) (zk (S := []) (zB [] (yS (true) 11) rfl ⟨zf _, zf _, trivial⟩ d9 trivial (fun _ h => h) rfl) ?_)))))))))))))))
  rintro _ ⟨⟨ua, ub⟩, rfl⟩
  refine zk (yw (cap := [.pointer (some ⟨ua, 0, none⟩), .pointer (some ⟨ub, 0, none⟩)]) [11, 12] (Z8 ua ub (true) 11) rfl rfl ⟨zf _, zf _, trivial⟩ d9 (sX rfl) (fun _ h => h) rfl) ?_
  rintro _ ⟨⟨⟩, rfl⟩
  refine za rfl (ze rfl) (zg (zc (zK (row_back hM) [8, 9] d9 (sX rfl) ?_)))
  rintro _ ⟨Fm2, rfl⟩
  refine zK (Zt (gr := gr) (s := s) { t.1 with Fm := Fm2 } (t.2)) [3, 4, 5, 6, 11, 7] d9 (sX rfl) ?_
  rintro _ ⟨Fr, rfl⟩
  refine zS (fn := Tryz.f70) (Fr) [0, 1, 2, 6] (fun _ _ h => h) (Rs.le (Rs.one rfl (zo rfl)) ?_) d9 (sX rfl)
  exact zC (by unfold Rnd.busyE; rw [if_neg (fun hb => by obtain ⟨y, hy, _⟩ := (Rnd.busy_iff hg.uni hi).1 hb; rw [hx] at hy; cases hy)]; rfl)
 ·skip
  refine yj [] (.r 0 (.r 1 (.r 2 (.r 3 (.r 4 (.r 5 (.r 6 (.r 7 (.r 8 (.r 9 (.r 10 (.r 11 (.r 12 (.r 13 (.n 14 (.e 15 (.r 16 .fin) .no) .no))))))))))))))) k9 k9 (fun d _ _ _ _ h => by cases d <;> exact h) (zj rfl rfl (zl 0 rfl rfl rfl k9 zp) (zj rfl rfl (zw rfl) (zj rfl rfl (zi (n := 4) rfl k9) (zj rfl rfl (zl 3 rfl rfl rfl k9 zp) (zj rfl rfl (zi (n := 1) rfl k9) (zj rfl rfl (zl 1 rfl rfl rfl k9 zp) (zj rfl rfl (Rd.idxT 6 1 rfl rfl rfl k9 k9 o9 (by rw [hi]; have := t.2; have := hh.2; omega)) (zj rfl rfl (Rd.loadT1 6 rfl rfl k9 (show t.1.Ms[e.rnd.toNat]? = some M by rw [hi]; exact hM) rfl zp) (zj rfl rfl (zi (n := 0) rfl k9) (zj rfl rfl (zl 1 rfl rfl rfl k9 zp) (zj rfl rfl ((Rd.mono (Rd.lookQ (kt := 9) (et := 58) (ok := true) 8 rfl rfl rfl (show Le (yt e.acc) (isD (yq e.acc)) from zf _) k9 (keyNm6 _) (Rnd.mem_keysE.2 ⟨x, hx⟩) zp) (tup_env hx))) (zj rfl rfl (zd rfl) (zj rfl rfl (zq rfl rfl) (zj rfl rfl (zq rfl rfl) (Yb rfl (EfB.alloc (zs := [.string ⟨#[]⟩, .int .i64 0, .int .i64 0, .slice none 0 0, .slice none 0 0]) k9 rfl) ?_ zI)))))))))))))))
  rintro g3 _ rfl
  refine zZ rfl (zF 10 rfl rfl rfl k9 rfl (List.mem_append_right _ (List.mem_cons_self))) ?_ zI
  rintro _ rfl
  refine zj rfl rfl (ze rfl) (zV (zc (zh (zO (σ' := zR [(1, pA q4), (3, pA g3), (4, yY true)] [.c q3 [pA gr], .c q4 [yt e.acc, iD e.rnd, iD e.ser, bD e.box, bD e.tag], .c q5 [iD now], .c gr [pA t.1.gb, lsD encW s.ws, iD s.ck, pA t.1.gl, isD (.slice t.1.A t.1.Ms.length t.1.c), isD (.map (some t.1.gk))], .r t.1.Fb (bkP t.1.gb s.bk), .r t.1.Fl (ldP t.1.gl s.en), .r t.1.Fv (yb 133 1 encM t.1.A t.1.c t.1.Ms), .r t.1.Fk (zX (some t.1.gk) encZ (Rnd.rks s.ks) (kyD s.ks)), .r Gi (zX M yq (Rnd.keysE s.es i) (envD s.es i)), .r Fm (restR (mps s.es t.1.Ms) i), .c g3 [yt x.acc, iD x.rnd, iD x.ser, bD x.box, bD x.tag]]) (sB [0, 1, 2, 3, 4, 5, 6, 7, 8, 9, 10] rfl rfl) (zb (za rfl (zd rfl) (za rfl (yU rfl) (za rfl (zd rfl) (zm rfl rfl (rfl) rfl rfl (zi (n := 2) rfl k9) (zm rfl rfl (rfl) rfl rfl (zl 10 rfl rfl rfl k9 zp) (zm rfl rfl (rfl) rfl rfl (zi (n := 2) rfl k9) (zm rfl rfl (rfl) rfl rfl (zl 1 rfl rfl rfl k9 zp) (zm rfl rfl (rfl) rfl rfl (yG rfl rfl) (za rfl (zy rfl (rfl) rfl) (zk (S := []) (zB [] (yS (decide (x.ser < e.ser)) 11) rfl ⟨zf _, zf _, trivial⟩ d9 trivial (fun _ h => h) rfl) ?_)))))))))))))))
  rintro _ ⟨⟨ua, ub⟩, rfl⟩
  refine zk (yw (cap := [.pointer (some ⟨ua, 0, none⟩), .pointer (some ⟨ub, 0, none⟩)]) [11, 12] (Z8 ua ub (decide (x.ser < e.ser)) 11) rfl rfl ⟨zf _, zf _, trivial⟩ d9 (sX rfl) (fun _ h => h) rfl) ?_
  rintro _ ⟨⟨⟩, rfl⟩
  refine za rfl (ze rfl) (zg (zc (zK (row_back hM) [8, 9] d9 (sX rfl) ?_)))
  rintro _ ⟨Fm2, rfl⟩
  refine zK (Zt (gr := gr) (s := s) { t.1 with Fm := Fm2 } (t.2)) [3, 4, 5, 6, 11, 7] d9 (sX rfl) ?_
  rintro _ ⟨Fr, rfl⟩
  refine zS (fn := Tryz.f70) (Fr) [0, 1, 2, 6] (fun _ _ h => h) (Rs.le (Rs.one rfl (zo rfl)) ?_) d9 (sX rfl)
  exact zC (by unfold Rnd.busyE; by_cases hl : e.ser ≤ x.ser; (rw [if_pos ((Rnd.busy_iff hg.uni hi).2 ⟨x, hx, hl⟩), unE, decide_eq_false o9]; rfl); (rw [if_neg (fun hb => by obtain ⟨y, hy, hy2⟩ := (Rnd.busy_iff hg.uni hi).1 hb; rw [hx] at hy; cases hy; exact hl hy2), unE, decide_eq_true o9]; rfl))
end Sx
end Go.Proofs.YtgokpcnabgacnaaGreatDoor
namespace Go.Proofs.YtgokpcnabgacnaaGreatDoor
open Go.RowKit
namespace Sx
theorem envD_put {es : List Env.T} {e : Env.T} {i : Nat} {q : List UInt8} (h : ¬ (e.rnd = (i : Int) ∧ e.acc = q)) : envD (Rnd.put es e) i q = envD es i q := by unfold envD; rw [Rnd.getE_put_ne h]
theorem envD_self {es : List Env.T} {e : Env.T} {i : Nat} (hi : e.rnd = (i : Int)) : envD (Rnd.put es e) i e.acc = yX (encEn e) := envD_some (Rnd.getE_put_self hi)
theorem mps_len (es : List Env.T) (Ms : List (Option Nat)) : (mps es Ms).length = Ms.length := by unfold mps; simp
theorem row_put {es : List Env.T} {e : Env.T} {Ms : List (Option Nat)} {i g : Nat} {F G : List Nat} (hi : e.rnd = (i : Int)) (h : i < Ms.length) : Opens [.r G (zX (some g) yq (Rnd.keysE (Rnd.put es e) i) (envD (Rnd.put es e) i)), .r F (restR (mps es Ms) i)] (fun q => ∃ F', q = [.r F' (rowR (mps (Rnd.put es e) (Ms.set i (some g))))]) := by
 have h2 := closes_row (G := G) (F := F) (Rs := mps es Ms) (i := i) (R := zX (some g) yq (Rnd.keysE (Rnd.put es e) i) (envD (Rnd.put es e) i)) (by rw [mps_len]; exact h)
 refine h2.trans fun q ⟨F', hq⟩ => ?_
 subst hq
 refine opens_le ⟨rfl, fun L w => leRow (by rw [List.length_set, mps_len, mps_len, List.length_set]) (fun n R R' h3 h4 => ?_) L F' w⟩
 unfold mps at h3 h4
 rw [List.getElem?_set] at h3
 rw [List.getElem?_mapIdx, List.getElem?_set] at h4
 by_cases hn : i = n
 ·subst hn
  rw [if_pos rfl, if_pos (by simpa using h)] at h3
  rw [if_pos rfl, if_pos h] at h4
  obtain rfl := Option.some.inj h3
  obtain rfl := Option.some.inj h4
  exact yp _
 ·rw [if_neg hn] at h3 h4
  rw [List.getElem?_mapIdx] at h3
  obtain ⟨M, hM, rfl⟩ := Option.map_eq_some_iff.1 h3
  rw [hM] at h4
  obtain rfl := Option.some.inj h4
  have hne : e.rnd ≠ (n : Int) := by omega
  exact leMapQ (fun q => (Rnd.keys_put_ne hne q).symm) (fun q _ => by rw [envD_put (fun h => hne h.1)]; exact zf _)
theorem con_sub4 (gr q3 q4 q5 : Nat) (F : List Nat) (s : Rnd.S) (e : Env.T) (now : Int) (hg : Rnd.Good s) (hok : Env.ok e) (ht : Rnd.time now) : ConR Tryz.prog 71 [.c q3 [pA gr], .c q4 [yt e.acc, iD e.rnd, iD e.ser, bD e.box, bD e.tag], .c q5 [iD now], .r F (Zu gr s)] [pA q4, pA q5, pA q3] (fun F' : List Nat => [.c q3 [pA gr], .c q4 [yt e.acc, iD e.rnd, iD e.ser, bD e.box, bD e.tag], .c q5 [iD now], .r F' (Zu gr (s.app 1 (Rnd.subP e now)))]) (fun F' : List Nat => iD (yI s.en 1 (Rnd.subP e now))) := by
 obtain ⟨a1, a2, a3⟩ := Rnd.subP_len hok ht
 have hnl := hg.len
 have htn : now.toNat ≤ 9223372036854775807 := by have := ht.2; omega
 have hts : ((now.toNat : Nat) : Int) = now := Int.toNat_of_nonneg ht.1
 have ho2 : ([] ++ grp now.toNat).length + (Env.enc e).length + 10 ≤ 65536 := by simp only [List.nil_append]; omega
 have ho3 : ([] ++ grp now.toNat ++ strE (Env.enc e)).length ≤ 65536 := by simpa [Rnd.subP] using a1
 refine zY Tryz.func71 k9 rfl k9 fun base w0 => (zh (zb (za rfl (ze rfl) (zg (zc (zh (zb (za rfl (zG 1 5 rfl rfl k9 rfl zp) (zk (S := []) (yo (con_encodeE e) rfl ⟨zf _, trivial⟩ rfl) ?_)))))))))
 rintro _ rfl
 refine za rfl (zd rfl) (za rfl (zq rfl rfl) (za rfl (zq rfl rfl) (za rfl (ze rfl) (za rfl (ze rfl) (zg (zc (zh (zh (zb (za rfl (zd rfl) (za rfl (yd rfl rfl) (zg (zc (zE rfl (by simp [Env.encE, hok]) (zu (zc (zh (zb (zk (S := []) (zQ (zs := [.int .i64 0, .slice none 0 0]) k9 rfl) ?_)))))))))))))))))))
 rintro _ ⟨g6, rfl⟩
 refine zg (zc (zh (SW.vecN 5 1 Z2 (zO (σ' := zR [(1, pA q5), (2, pA q3), (6, pA g6), (4, bD (Env.enc e))] [.c q3 [pA gr], .c q4 [yt e.acc, iD e.rnd, iD e.ser, bD e.box, bD e.tag], .c q5 [iD now], .r F (Zu gr s), .c g6 [iD 0, isD (.slice (⟨none, 0, []⟩ : Ust).A (([] : List UInt8)).length (⟨none, 0, []⟩ : Ust).c)], .r (⟨none, 0, []⟩ : Ust).F (yb 5 1 Z2 (⟨none, 0, []⟩ : Ust).A (⟨none, 0, []⟩ : Ust).c (([] : List UInt8)))]) (⟨⟨_, rfl, ⟨lq rfl, ⟨lq rfl, ⟨lq rfl, ⟨⟨_, rfl, (by rw [Env.encQ, if_pos hok]; exact zf _)⟩, trivial⟩⟩⟩⟩⟩, [0, 1, 2, 3, 4, 5], by decide, (sX rfl)⟩) (zb (za rfl (zl 2 rfl rfl rfl k9 zp) (zk (zB [4, 5] (con_wUint g6 (⟨none, 0, []⟩ : Ust) [] now.toNat htn d9) rfl ⟨zf _, zC (by rw [hts]), trivial⟩ d9 (sX rfl) (fun _ h => h) rfl) ?_)))))))
 rintro _ ⟨s16, rfl⟩
 refine zg (zc (zh (zb (za rfl (zd rfl) (zk (zB [4, 5] (con_wBytes g6 s16 ([] ++ grp now.toNat) (Env.enc e) ho2) rfl ⟨zf _, zf _, trivial⟩ d9 (sX rfl) (fun _ h => h) rfl) ?_)))))
 rintro _ ⟨s18, rfl⟩
 refine zg (zc (zh (zO (σ' := zR [(2, pA q3), (6, pA g6)] [.c q3 [pA gr], .c q4 [yt e.acc, iD e.rnd, iD e.ser, bD e.box, bD e.tag], .c q5 [iD now], .r F (Zu gr s), .c g6 [iD 0, isD (.slice s18.A ([] ++ grp now.toNat ++ strE (Env.enc e)).length s18.c)], .r s18.F (yb 5 1 Z2 s18.A s18.c ([] ++ grp now.toNat ++ strE (Env.enc e)))]) (sB [0, 1, 2, 3, 4, 5] rfl rfl) (zK (ZJ (gr := gr) (s := s)) [3] d9 ⟨lR rfl, trivial⟩ ?_))))
 rintro _ ⟨t, rfl⟩
 refine zb (za rfl (zl 0 rfl rfl rfl k9 zp) (zk (zB [5, 7, 3, 4] (con_rappend gr t.1.gl g6 _ s.ws s.ck _ _ _ _ t.1.Fl s.en (Led.app s.en 1 (Rnd.subP e now)) 1 (yI s.en 1 (Rnd.subP e now)) s18 ([] ++ grp now.toNat ++ strE (Env.enc e)) ho3 o9 rfl rfl) rfl ⟨zf _, zf _, zf _, trivial⟩ d9 (sX rfl) (fun _ h => h) rfl) ?_))
 rintro _ ⟨F20, rfl⟩
 refine za rfl (ze rfl) (zg (zc (zK (Zt (gr := gr) (s := (s.app 1 (Rnd.subP e now))) { t.1 with Fl := F20 } (t.2)) [7, 3, 8, 4, 5, 6] d9 (sX rfl) ?_)))
 rintro _ ⟨Fr, rfl⟩
 refine zS (fn := Tryz.f71) (Fr) [0, 1, 2, 5] (fun _ _ h => h) (Rs.le (Rs.one rfl (zo rfl)) ?_) d9 (sX rfl)
 exact zf _
theorem con_tryU (gc ga gb : Nat) (c : Int) (ok : Bool) (k : Int) : ConR Tryz.prog 116 [.c gc [iD (c)], .c ga [yY ok], .c gb [iD k]] [isD (.func (.func 118) #[] #[.pointer (some ⟨ga, 0, none⟩), .pointer (some ⟨gb, 0, none⟩)]), pA gc] (fun _ : Unit => [.c gc [iD (if c = 0 then unE ok k else c)], .c ga [yY ok], .c gb [iD k]]) (fun _ : Unit => isD (.tuple #[])) := by
 refine zY Tryz.func116 k9 rfl k9 fun base w0 => (zh (zb (za rfl (zl 0 rfl rfl rfl k9 zp) (za rfl (yP rfl rfl) (zg (zc (zJ rfl (fun hb4 => ?_) (fun hb4 => ?_))))))))
 ·have h4 : c = 0 := by simpa using hb4
  refine zb (za rfl (zd rfl) (zk (yw (cap := [.pointer (some ⟨ga, 0, none⟩), .pointer (some ⟨gb, 0, none⟩)]) [1, 2] (Z8 ga gb ok k) rfl rfl ⟨zf _, zf _, trivial⟩ d9 (sX rfl) (fun _ h => h) rfl) ?_))
  rintro _ ⟨⟨⟩, rfl⟩
  refine zk (S := [_]) (yr 0 rfl rfl rfl k9 rfl (List.mem_singleton.2 rfl)) ?_
  rintro _ rfl
  refine zg ?_
  refine Zx (fn := Tryz.f116) (()) [0, 1, 2] (Rs.none rfl) d9 ⟨⟨_, rfl, ⟨zC (by rw [if_pos h4]), trivial⟩⟩, (sX rfl)⟩
 ·have h4 : ¬ c = 0 := by simpa using hb4
  refine zu ?_
  refine Zx (fn := Tryz.f116) (()) [0, 1, 2] (Rs.none rfl) d9 ⟨⟨_, rfl, ⟨zC (by rw [if_neg h4]), trivial⟩⟩, (sX rfl)⟩
theorem con_try3 (fv : FuncId) (caps : List Value) (gc x0 x1 x2 : Nat) (d0 d1 d2 : List D) (F : List Nat) (R R2 : Res) (c e : Int) (hc : c = 0 → ConR Tryz.prog fv [.c x0 d0, .c x1 d1, .c x2 d2, .r F R] (caps.map isD) (fun t : List Nat => [.c x0 d0, .c x1 d1, .c x2 d2, .r t R2]) (fun _ => iD e)) (hR : c ≠ 0 → R2 = R) : ConR Tryz.prog 116 [.c gc [iD (c)], .c x0 (d0), .c x1 (d1), .c x2 (d2), .r F (R)] [isD (.func (.func fv) #[] caps.toArray), pA gc] (fun F' : List Nat => [.c gc [iD (if c = 0 then e else c)], .c x0 (d0), .c x1 (d1), .c x2 (d2), .r F' (R2)]) (fun F' : List Nat => isD (.tuple #[])) := by
 refine zY Tryz.func116 k9 rfl k9 fun base w0 => (zh (zb (za rfl (zl 0 rfl rfl rfl k9 zp) (za rfl (yP rfl rfl) (zg (zc (zJ rfl (fun hb4 => ?_) (fun hb4 => ?_))))))))
 ·have h4 : c = 0 := by simpa using hb4
  refine zb (za rfl (zd rfl) (zk (yw (cap := caps) [1, 2, 3, 4] (hc h4) rfl rfl (yC _) d9 (sX rfl) (fun _ h => h) rfl) ?_))
  rintro _ ⟨F6, rfl⟩
  refine zk (S := [_]) (yr 0 rfl rfl rfl k9 rfl (List.mem_singleton.2 rfl)) ?_
  rintro _ rfl
  refine zg ?_
  refine Zx (fn := Tryz.f116) (F6) [0, 1, 2, 3, 4] (Rs.none rfl) d9 ⟨⟨_, rfl, ⟨zC (by rw [if_pos h4]), trivial⟩⟩, (sX rfl)⟩
 ·have h4 : ¬ c = 0 := by simpa using hb4
  refine zu ?_
  refine Zx (fn := Tryz.f116) (F) [0, 1, 2, 3, 4] (Rs.none rfl) d9 ⟨⟨_, rfl, ⟨zC (by rw [if_neg h4]), trivial⟩⟩, ⟨la rfl, ⟨la rfl, ⟨la rfl, ⟨⟨_, rfl, (by rw [hR h4]; exact yp _)⟩, trivial⟩⟩⟩⟩⟩
theorem con_try4 (fv : FuncId) (caps : List Value) (gc x0 x1 x2 x3 : Nat) (d0 d1 d2 d3 : List D) (F : List Nat) (R R2 : Res) (c e : Int) (hc : c = 0 → ConR Tryz.prog fv [.c x0 d0, .c x1 d1, .c x2 d2, .c x3 d3, .r F R] (caps.map isD) (fun t : List Nat => [.c x0 d0, .c x1 d1, .c x2 d2, .c x3 d3, .r t R2]) (fun _ => iD e)) (hR : c ≠ 0 → R2 = R) : ConR Tryz.prog 116 [.c gc [iD (c)], .c x0 (d0), .c x1 (d1), .c x2 (d2), .c x3 (d3), .r F (R)] [isD (.func (.func fv) #[] caps.toArray), pA gc] (fun F' : List Nat => [.c gc [iD (if c = 0 then e else c)], .c x0 (d0), .c x1 (d1), .c x2 (d2), .c x3 (d3), .r F' (R2)]) (fun F' : List Nat => isD (.tuple #[])) := by
 refine zY Tryz.func116 k9 rfl k9 fun base w0 => (zh (zb (za rfl (zl 0 rfl rfl rfl k9 zp) (za rfl (yP rfl rfl) (zg (zc (zJ rfl (fun hb4 => ?_) (fun hb4 => ?_))))))))
 ·have h4 : c = 0 := by simpa using hb4
  refine zb (za rfl (zd rfl) (zk (yw (cap := caps) [1, 2, 3, 4, 5] (hc h4) rfl rfl (yC _) d9 (sX rfl) (fun _ h => h) rfl) ?_))
  rintro _ ⟨F6, rfl⟩
  refine zk (S := [_]) (yr 0 rfl rfl rfl k9 rfl (List.mem_singleton.2 rfl)) ?_
  rintro _ rfl
  refine zg ?_
  refine Zx (fn := Tryz.f116) (F6) [0, 1, 2, 3, 4, 5] (Rs.none rfl) d9 ⟨⟨_, rfl, ⟨zC (by rw [if_pos h4]), trivial⟩⟩, (sX rfl)⟩
 ·have h4 : ¬ c = 0 := by simpa using hb4
  refine zu ?_
  refine Zx (fn := Tryz.f116) (F) [0, 1, 2, 3, 4, 5] (Rs.none rfl) d9 ⟨⟨_, rfl, ⟨zC (by rw [if_neg h4]), trivial⟩⟩, ⟨la rfl, ⟨la rfl, ⟨la rfl, ⟨la rfl, ⟨⟨_, rfl, (by rw [hR h4]; exact yp _)⟩, trivial⟩⟩⟩⟩⟩⟩
end Sx
end Go.Proofs.YtgokpcnabgacnaaGreatDoor
