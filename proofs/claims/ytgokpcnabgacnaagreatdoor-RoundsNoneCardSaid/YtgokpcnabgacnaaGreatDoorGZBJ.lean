/- ROUNDS: the law's known. ROUNDS: RoundsSchedules. -/
import Derived.Test.YtgokpcnabgacnaaGreatDoorGZBI
set_option maxHeartbeats 8000000
set_option maxRecDepth 100000
namespace Go.Proofs.YtgokpcnabgacnaaGreatDoor
open Go.RowKit
namespace Sx
theorem con_sealedP {gb : Nat} {l : List Acc.T} {F : List Nat} (nm : List UInt8) (rnd ser : Int) (key bid : List UInt8) (hf : Acc.Fine l) : ConR Tryz.prog 23 [.r F (bkP gb l)] [pA gb, yt nm, iD rnd, iD ser, bD key, bD bid] (fun F' : List Nat => [.r F' (bkP gb l)]) (fun _ => yX (encEn (Rnd.sld l nm rnd ser key bid))) :=
 ConR.bkK fun s => con_sealed gb s l nm rnd ser key bid hf
theorem con_submitT {gr : Nat} {F : List Nat} {s s' : Rnd.S} {e : Env.T} {now E : Int} (hg : Rnd.Good s) (hs : Rnd.subS s e now = s') (hE : Rnd.subE s e now = E) : ConR Tryz.prog 22 [.r F (Zu gr s)] [pA gr, yX [yt e.acc, iD e.rnd, iD e.ser, bD e.box, bD e.tag], iD now] (fun F' : List Nat => [.r F' (Zu gr s')]) (fun _ => iD E) := by
 subst hs hE
 exact con_submit gr F s e now hg
theorem con_revealT {gr : Nat} {F : List Nat} {s s' : Rnd.S} {r : Int} {key : List UInt8} {now E : Int} (hg : Rnd.Good s) (hs : Rnd.revS s r key now = s') (hE : Rnd.revE s r key now = E) (hk : key.length ≤ 1000000) : ConR Tryz.prog 39 [.r F (Zu gr s)] [pA gr, iD r, bD key, iD now] (fun F' : List Nat => [.r F' (Zu gr s')]) (fun _ => iD E) := by
 subst hs hE
 exact con_reveal gr F s r key now hg hk
theorem con_stateT {gr : Nat} {F : List Nat} {s : Rnd.S} {r now S E : Int} (h : Rnd.atS s r now = S ∧ Rnd.atE s r now = E) : ConR Tryz.prog 16 [.r F (Zu gr s)] [pA gr, iD r, iD now] (fun F' : List Nat => [.r F' (Zu gr s)]) (fun _ => Yq [iD S, iD E]) := by
 obtain ⟨rfl, rfl⟩ := h
 exact con_stateR gr F s r now
theorem con_bidsT {gr : Nat} {F : List Nat} {s : Rnd.S} {r E : Int} {l : List Rnd.Opn} (hg : Rnd.Good s) (h : Zg s r = E ∧ Rnd.bidsV s r = l) : ConR Tryz.prog 43 [.r F (Zu gr s)] [pA gr, iD r] (fun F' : List Nat => [.r F' (Zu gr s)]) (fun _ => Yq [lsD encO l, iD E]) := by
 obtain ⟨rfl, rfl⟩ := h
 exact con_bids gr F s r hg
theorem bldOp3 {a b : List UInt8} {n : Int} : Bld Tryz.prog 110 [0, 1, 2] [yt a, iD n, bD b] [yt a, iD n, bD b, isD (.bool false)] := fun L w vs hv => by
 obtain ⟨u, v, z, rfl, rfl, rfl, h⟩ := all3 hv
 have h' := h
 obtain ⟨A, c, rfl, -⟩ := h
 exact ⟨[.string _, .int .i64 n, .slice A _ c, .bool false], ⟨rfl, rfl, h', rfl, trivial⟩, fun w' => by kernel_rfl⟩
theorem kGood1 {x : Env.T} {b : List UInt8} (hx : KE x 1 b) : Rnd.Good (kS1 x) := kSt2 hx ▸ kGood0.sub x 10
theorem kGood2 {x y : Env.T} {b c : List UInt8} (hx : KE x 1 b) (hy : KE y 2 c) : Rnd.Good (kS2 x y) := kSt4 hx hy ▸ (kGood1 hx).sub y 19
theorem kGood3 {x y : Env.T} {b c : List UInt8} (hx : KE x 1 b) (hy : KE y 2 c) : Rnd.Good (kS3 x y) := kRv3 (x := x) (y := y) ▸ (kGood2 hx hy).rev 0 k1L 25
theorem blsJ3 {a b c : Int} : Bls Tryz.prog 112 3 [0, 1, 2] [iD a, iD b, iD c] ([a, b, c].flatMap encI) := ⟨3, fun L w vs hv => by
 obtain ⟨u, v, z, rfl, rfl, rfl, rfl⟩ := all3 hv
 exact ⟨[.int .i64 _, .int .i64 _, .int .i64 _], ⟨rfl, rfl, rfl, trivial⟩, fun w' => by kernel_rfl⟩⟩
theorem con_known44  : ConN Tryz.prog 9 [] (yY true) := by
 refine yE Tryz.func9 k9 rfl k9 fun base w0 => (zh (zb (za rfl (ze rfl) (zg (zc (zh (zb (zk (S := []) (zB [] (con_given) rfl trivial d9 trivial (fun _ h => h) rfl) ?_))))))))
 rintro _ ⟨⟨g1, s1⟩, rfl⟩
 refine za rfl (zd rfl) (za rfl (zq rfl rfl) (za rfl (zq rfl rfl) (zk (S := []) (zQ (zs := [.slice none 0 0]) k9 rfl) ?_)))
 rintro _ ⟨g2, rfl⟩
 refine za rfl (ze rfl) (zk (S := [_]) (zF 4 rfl rfl rfl k9 rfl (List.mem_singleton.2 rfl)) ?_)
 rintro _ rfl
 refine zg (zc (zh (zK (bk_in (gb := g1) (l := hL) s1) [0, 1, 2, 3] d9 (sX rfl) ?_)))
 rintro _ ⟨Fb, rfl⟩
 refine zb (za rfl (zd rfl) (zk (S := []) (yo (con_schedule) rfl trivial rfl) ?_))
 rintro _ rfl
 refine zk (zB [1] (con_new g1 hL Fb schL hFine sch_ok) rfl ⟨zf _, zf _, trivial⟩ d9 ⟨lR rfl, trivial⟩ (fun _ h => h) rfl) ?_
 rintro _ ⟨⟨F24, gr, H24⟩, rfl⟩
 refine za rfl (zd rfl) (za rfl (zq rfl rfl) (za rfl (zq rfl rfl) (za rfl (ze rfl) (za rfl (ze rfl) (zg (zc (zh (zh (zb (za rfl (zd rfl) (za rfl (Z0 rfl rfl k9) (za rfl (zd rfl) (zm rfl rfl (rfl) rfl rfl (zd rfl) (zm rfl rfl (rfl) rfl rfl (yd rfl rfl) (za rfl (zy rfl (rfl) rfl) (zg (zc (zE rfl d9 (zu (zc (zh (zb (zk (S := []) (yo (con_row 1 32 d9) rfl ⟨zf _, zf _, trivial⟩ rfl) ?_)))))))))))))))))))))))
 rintro _ rfl
 refine zk (S := []) (yo (con_row 2 32 d9) rfl ⟨zf _, zf _, trivial⟩ rfl) ?_
 rintro _ rfl
 refine za rfl (ze rfl) (za rfl (ze rfl) (zg (zc (zh (zO (σ' := zR [(1, pA g1), (3, pA gr), (5, bD k1L), (6, bD k2L)] [.r F24 (bkP g1 hL), .r H24 (Zu gr kS0)]) (sB [1, 2] rfl rfl) (zb (za rfl (zd rfl) (za rfl (zd rfl) (zk (S := []) (Ef.litV (e := 5) (b := [104, 105]) rfl rfl rfl d9 (fun w => by kernel_rfl) rfl) ?_)))))))))
 rintro _ ⟨g37, rfl⟩
 refine zk (Ef.mark (e := 5) 2 rfl rfl k9 k9 d9 (fun _ h => h) rfl) ?_
 rintro _ rfl
 refine zk (zB [0] (con_sealedP nmA 0 1 k1L [104, 105] hFine) rfl ⟨zf _, zf _, zf _, zf _, zf _, zf _, trivial⟩ d9 ⟨lR rfl, trivial⟩ (fun _ h => h) rfl) ?_
 rintro _ ⟨F39, rfl⟩
 refine za rfl (zd rfl) (za rfl (zd rfl) (zk (S := []) (Ef.litV (e := 5) (b := [104, 111]) rfl rfl rfl d9 (fun w => by kernel_rfl) rfl) ?_))
 rintro _ ⟨g42, rfl⟩
 refine zk (Ef.mark (e := 5) 2 rfl rfl k9 k9 d9 (fun _ h => h) rfl) ?_
 rintro _ rfl
 refine zk (zB [1] (con_sealedP nmA 0 2 k1L [104, 111] hFine) rfl ⟨zf _, zf _, zf _, zf _, zf _, zf _, trivial⟩ d9 ⟨lR rfl, trivial⟩ (fun _ h => h) rfl) ?_
 rintro _ ⟨F44, rfl⟩
 refine zk (S := []) (zQ (zs := [.string ⟨#[]⟩, .int .i64 0, .int .i64 0, .slice none 0 0, .slice none 0 0]) k9 rfl) ?_
 rintro _ ⟨g7, rfl⟩
 refine zk (S := []) (zQ (zs := [.string ⟨#[]⟩, .int .i64 0, .int .i64 0, .slice none 0 0, .slice none 0 0]) k9 rfl) ?_
 rintro _ ⟨g8, rfl⟩
 refine zk (S := [_]) (zF 2 rfl rfl rfl k9 rfl (List.mem_singleton.2 rfl)) ?_
 rintro _ rfl
 refine zk (S := [_]) (zF 3 rfl rfl rfl k9 rfl (List.mem_singleton.2 rfl)) ?_
 rintro _ rfl
 refine zg (zc (zh (zh ?_)))
 obtain ⟨x, hxe⟩ : ∃ x, x = Rnd.sld hL nmA 0 1 k1L [104, 105] := ⟨_, rfl⟩
 obtain ⟨y, hye⟩ : ∃ y, y = Rnd.sld hL nmA 0 2 k1L [104, 111] := ⟨_, rfl⟩
 have hx : KE x 1 [104, 105] := by rw [hxe]; exact ke d9 d9
 have hy : KE y 2 [104, 111] := by rw [hye]; exact ke d9 d9
 refine zO (σ' := zR [(3, pA gr), (5, bD k1L), (6, bD k2L), (7, pA g7), (8, pA g8)] [.r H24 (Zu gr kS0), .c g7 [yt x.acc, iD x.rnd, iD x.ser, bD x.box, bD x.tag], .c g8 [yt y.acc, iD y.rnd, iD y.ser, bD y.box, bD y.tag]]) (⟨⟨_, rfl, (sT rfl)⟩, [0, 2, 3], by decide, ⟨lR rfl, ⟨⟨_, rfl, (by rw [hxe]; exact yC _)⟩, ⟨⟨_, rfl, (by rw [hye]; exact yC _)⟩, trivial⟩⟩⟩⟩) (zb (za rfl (zd rfl) (za rfl (zG 1 5 rfl rfl k9 rfl zp) (zk (zB [0] (con_submitT kGood0 (kSt1 hx) (kSub1 hx)) rfl ⟨zf _, zf _, zf _, trivial⟩ d9 ⟨lR rfl, trivial⟩ (fun _ h => h) rfl) ?_))))
 rintro _ ⟨F47, rfl⟩
 refine za rfl (yd rfl rfl) (za rfl (zd rfl) (zm rfl rfl d9 rfl rfl (zd rfl) (zm rfl rfl d9 rfl rfl (zG 0 5 rfl rfl k9 rfl zp) (yA rfl rfl d9 rfl (zB [2] (con_submitT kGood0 (kSt2 hx) (kSub2 hx)) rfl ⟨zf _, zf _, zf _, trivial⟩ d9 ⟨lR rfl, trivial⟩ (fun _ h => h) rfl) ?_))))
 rintro _ ⟨F52, rfl⟩
 refine zm rfl rfl d9 rfl rfl (yd rfl rfl) (za rfl (zy rfl d9 rfl) (za rfl (zd rfl) (zm rfl rfl d9 rfl rfl (zd rfl) (zm rfl rfl d9 rfl rfl (zG 0 5 rfl rfl k9 rfl zp) (yA rfl rfl d9 rfl (zB [2] (con_submitT (kGood1 hx) (kSt3 hx) (kSub3 hx)) rfl ⟨zf _, zf _, zf _, trivial⟩ d9 ⟨lR rfl, trivial⟩ (fun _ h => h) rfl) ?_)))))
 rintro _ ⟨F58, rfl⟩
 refine zm rfl rfl d9 rfl rfl (yd rfl rfl) (za rfl (zy rfl d9 rfl) (za rfl (zd rfl) (zm rfl rfl d9 rfl rfl (zd rfl) (zm rfl rfl d9 rfl rfl (zG 1 5 rfl rfl k9 rfl zp) (yA rfl rfl d9 rfl (zB [2] (con_submitT (kGood1 hx) (kSt4 hx hy) (kSub4 hx hy)) rfl ⟨zf _, zf _, zf _, trivial⟩ d9 ⟨lR rfl, trivial⟩ (fun _ h => h) rfl) ?_)))))
 rintro _ ⟨F64, rfl⟩
 refine zm rfl rfl d9 rfl rfl (yd rfl rfl) (za rfl (zy rfl d9 rfl) (za rfl (zd rfl) (zm rfl rfl d9 rfl rfl (zd rfl) (zm rfl rfl d9 rfl rfl (zG 1 5 rfl rfl k9 rfl zp) (yA rfl rfl d9 rfl (zB [2] (con_submitT (kGood2 hx hy) (kSt5 hy) (kSub5 hy)) rfl ⟨zf _, zf _, zf _, trivial⟩ d9 ⟨lR rfl, trivial⟩ (fun _ h => h) rfl) ?_)))))
 rintro _ ⟨F70, rfl⟩
 refine zm rfl rfl d9 rfl rfl (yd rfl rfl) (za rfl (zy rfl d9 rfl) (zg (zc (zE rfl d9 (zu (zc (zh (zO (σ' := zR [(3, pA gr), (5, bD k1L), (6, bD k2L)] [.r F70 (Zu gr (kS2 x y))]) (sB [2] rfl rfl) (zb (za rfl (zd rfl) (zk (zB [0] (con_stateT kAt1) rfl ⟨zf _, zf _, zf _, trivial⟩ d9 ⟨lR rfl, trivial⟩ (fun _ h => h) rfl) ?_)))))))))))
 rintro _ ⟨F75, rfl⟩
 refine za rfl (zd rfl) (za rfl (zq rfl rfl) (za rfl (zq rfl rfl) (za rfl (ze rfl) (za rfl (ze rfl) (zg (zc (zh (zb (za rfl (zd rfl) (zk (zB [0] (con_stateT kAt2) rfl ⟨zf _, zf _, zf _, trivial⟩ d9 ⟨lR rfl, trivial⟩ (fun _ h => h) rfl) ?_))))))))))
 rintro _ ⟨F80, rfl⟩
 refine za rfl (zd rfl) (za rfl (zq rfl rfl) (za rfl (zq rfl rfl) (za rfl (ze rfl) (za rfl (ze rfl) (zg (zc (zh (zb (za rfl (zd rfl) (zk (zB [0] (con_bidsT (kGood2 hx hy) kBids1) rfl ⟨zf _, zf _, trivial⟩ d9 ⟨lR rfl, trivial⟩ (fun _ h => h) rfl) ?_))))))))))
 rintro _ ⟨F85, rfl⟩
 refine za rfl (zd rfl) (za rfl (zq rfl rfl) (za rfl (zq rfl rfl) (za rfl (ze rfl) (za rfl (ze rfl) (zg (zc (zh (zh (zO (σ' := zR [(3, pA gr), (5, bD k1L), (6, bD k2L), (9, iD 2), (10, iD 0), (11, iD 3), (12, iD 0), (14, iD 8)] [.r F85 (Zu gr (kS2 x y))]) (sB [0] rfl rfl) (zb (za rfl (zd rfl) (za rfl (yd rfl rfl) (za rfl (zd rfl) (zm rfl rfl d9 rfl rfl (zd rfl) (zm rfl rfl d9 rfl rfl (yd rfl rfl) (za rfl (zy rfl d9 rfl) (za rfl (zd rfl) (zm rfl rfl d9 rfl rfl (zd rfl) (zm rfl rfl d9 rfl rfl (yd rfl rfl) (za rfl (zy rfl d9 rfl) (za rfl (zd rfl) (zm rfl rfl d9 rfl rfl (zd rfl) (zm rfl rfl d9 rfl rfl (yd rfl rfl) (za rfl (zy rfl d9 rfl) (za rfl (zd rfl) (zm rfl rfl d9 rfl rfl (zd rfl) (zm rfl rfl d9 rfl rfl (yd rfl rfl) (za rfl (zy rfl d9 rfl) (zg (zc (zE rfl d9 (zu (zc (zh (zh (zO (σ' := zR [(3, pA gr), (5, bD k1L), (6, bD k2L)] [.r F85 (Zu gr (kS2 x y))]) (sB [0] rfl rfl) (zb (za rfl (zd rfl) (za rfl (zd rfl) ?_)))))))))))))))))))))))))))))))))))))))
 refine zk (zB [0] (con_revealT (kGood2 hx hy) kRv1 kRev1 s9) rfl ⟨zf _, zf _, zf _, zf _, trivial⟩ d9 ⟨lR rfl, trivial⟩ (fun _ h => h) rfl) ?_
 rintro _ ⟨F108, rfl⟩
 refine za rfl (yd rfl rfl) (za rfl (zd rfl) (zm rfl rfl d9 rfl rfl (zd rfl) (zm rfl rfl d9 rfl rfl (zd rfl) (yA rfl rfl d9 rfl (zB [0] (con_revealT (kGood2 hx hy) kRv2 kRev2 s9) rfl ⟨zf _, zf _, zf _, zf _, trivial⟩ d9 ⟨lR rfl, trivial⟩ (fun _ h => h) rfl) ?_))))
 rintro _ ⟨F113, rfl⟩
 refine zm rfl rfl d9 rfl rfl (yd rfl rfl) (za rfl (zy rfl d9 rfl) (za rfl (zd rfl) (zm rfl rfl d9 rfl rfl (zd rfl) (zm rfl rfl d9 rfl rfl (zd rfl) (yA rfl rfl d9 rfl (zB [0] (con_revealT (kGood2 hx hy) kRv3 kRev3 s9) rfl ⟨zf _, zf _, zf _, zf _, trivial⟩ d9 ⟨lR rfl, trivial⟩ (fun _ h => h) rfl) ?_)))))
 rintro _ ⟨F119, rfl⟩
 refine zm rfl rfl d9 rfl rfl (yd rfl rfl) (za rfl (zy rfl d9 rfl) (za rfl (zd rfl) (zm rfl rfl d9 rfl rfl (zd rfl) (zm rfl rfl d9 rfl rfl (zd rfl) (yA rfl rfl d9 rfl (zB [0] (con_revealT (kGood3 hx hy) kRv4 kRev4 s9) rfl ⟨zf _, zf _, zf _, zf _, trivial⟩ d9 ⟨lR rfl, trivial⟩ (fun _ h => h) rfl) ?_)))))
 rintro _ ⟨F125, rfl⟩
 refine zm rfl rfl d9 rfl rfl (yd rfl rfl) (za rfl (zy rfl d9 rfl) (zg (zc (zE rfl d9 (zu (zc (zh (zO (σ' := zR [(3, pA gr)] [.r F125 (Zu gr (kS3 x y))]) (sB [0] rfl rfl) (zb (za rfl (zd rfl) (zk (zB [0] (con_bidsT (kGood3 hx hy) (kBids2 hy)) rfl ⟨zf _, zf _, trivial⟩ d9 ⟨lR rfl, trivial⟩ (fun _ h => h) rfl) ?_)))))))))))
 rintro _ ⟨F130, rfl⟩
 refine za rfl (zd rfl) (za rfl (zq rfl rfl) (za rfl (zq rfl rfl) (za rfl (ze rfl) (za rfl (ze rfl) (zg (zc (zh (zO (σ' := zR [(3, pA gr), (15, lsD encO [(⟨nmA, 2, [104, 111], false⟩ : Rnd.Opn)]), (16, iD 0)] [.r F130 (Zu gr (kS3 x y))]) (sB [0] rfl rfl) (zb (za rfl (zd rfl) (za rfl (yP rfl rfl) (za rfl (zd rfl) (zm rfl rfl d9 rfl rfl (zd rfl) (yA (S := []) rfl rfl d9 rfl (Ef.litV (e := 5) (b := [104, 111]) rfl rfl rfl d9 (fun w => by kernel_rfl) rfl) ?_))))))))))))))
 rintro _ ⟨g137, rfl⟩
 refine yA rfl rfl d9 rfl (Ef.mark (e := 5) 1 rfl rfl k9 k9 d9 (fun _ h => h) rfl) ?_
 rintro _ rfl
 refine zm rfl rfl d9 rfl rfl (yh rfl rfl bldOp3) (yA (S := []) rfl rfl d9 rfl (Zl rfl rfl (blsO1 (⟨nmA, 2, [104, 111], false⟩ : Rnd.Opn)) rfl) ?_)
 rintro _ rfl
 refine yA (S := []) rfl rfl d9 rfl (zA [] (con_Same44 [(⟨nmA, 2, [104, 111], false⟩ : Rnd.Opn)] [(⟨nmA, 2, [104, 111], false⟩ : Rnd.Opn)] d9) rfl ⟨(zr (zf _)), (zr (zf _)), trivial⟩ rfl) ?_
 rintro _ rfl
 refine za rfl (zz rfl d9 rfl) (za rfl (zd rfl) (zm rfl rfl d9 rfl rfl (zd rfl) (yA rfl rfl d9 rfl (zB [0] (con_clock gr F130 (kS3 x y)) rfl ⟨zf _, trivial⟩ d9 ⟨lR rfl, trivial⟩ (fun _ h => h) rfl) ?_)))
 rintro _ ⟨F145, rfl⟩
 refine zm rfl rfl d9 rfl rfl (yP rfl rfl) (za rfl (zz rfl d9 rfl) (za rfl (zd rfl) (zm rfl rfl (rfl) rfl rfl (zd rfl) (yA rfl rfl (rfl) rfl (zB [0] (con_ledgerR gr F145 (kS3 x y) (kGood3 hx hy)) rfl ⟨zf _, trivial⟩ d9 ⟨lR rfl, trivial⟩ (fun _ h => h) rfl) ?_))))
 rintro _ ⟨⟨F150, gL, H150⟩, rfl⟩
 refine SWl.opensP (ld_out (gl := gL) (es := (kS3 x y).en)) [1] d9 ⟨lR rfl, trivial⟩ ?_
 rintro _ ⟨u, rfl⟩
 refine yA (S := []) rfl rfl (rfl) rfl (Zl rfl rfl blsJ3 rfl) ?_
 rintro _ rfl
 refine yA (S := []) rfl rfl (rfl) rfl (zA [1, 2, 3] (con_kinds (kS3 x y).en [1, 1, 2] (by show 3 ≤ 100000; decide) (fun e he => by have := ((kGood3 hx hy).fit e he).2.2; omega)) rfl ⟨(yL 1 rfl d9 ⟨(sees_vec 2 rfl d9), (sees_map 3 rfl d9), trivial⟩), (zr (zf _)), trivial⟩ rfl) ?_
 rintro _ rfl
 refine za rfl (zz rfl (rfl) rfl) (za rfl (ze rfl) (zg (zc (zH (fn := Tryz.f9) (fun _ _ h => h) (Rs.le (Rs.one rfl (zo rfl)) ?_)))))
 exact zP (by rw [kKinds]; rfl)
end Sx
end Go.Proofs.YtgokpcnabgacnaaGreatDoor
namespace Go.Proofs.YtgokpcnabgacnaaGreatDoor
open Go.RowKit
namespace Sx
end Sx
end Go.Proofs.YtgokpcnabgacnaaGreatDoor
