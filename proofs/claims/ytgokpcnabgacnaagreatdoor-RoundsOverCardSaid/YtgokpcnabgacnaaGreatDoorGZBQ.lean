/- ROUNDS: RoundsOver. -/
import Derived.Test.YtgokpcnabgacnaaGreatDoorGZBP
set_option maxHeartbeats 8000000
set_option maxRecDepth 100000
namespace Go.Proofs.YtgokpcnabgacnaaGreatDoor
open Go.RowKit
namespace Sx
theorem roundsOver_con (l : List Ac) (r many : Int) (hll : l.length ≤ 9223372036854775807) : ConN Tryz.prog 4 [lsD zag l, iD r, iD many] (yj true) := by
  refine con_ofNMp Tryz.func4 k9 rfl k9 fun base w0 => (zk (zi (YJ (S := []) (Yh rfl (fun _ _ _ h => Zg (One.h _ _ _ h)) rfl) ?_)))
  rintro _ ⟨g5, rfl⟩
  refine YJ (S := []) (zM (zs := [.bool false]) k9 rfl) ?_
  rintro _ ⟨g6, rfl⟩
  refine zP (zn (zk (zk (zi (za rfl (zI rfl) (YJ (S := []) (zD [] (con_few44 l 10 hll) rfl ⟨(zo (zb _)), (zo (zb _)), trivial⟩ rfl) ?_))))))
  rintro _ rfl
  refine za rfl (yS rfl) (zP (zn (zJ rfl (fun hb23 => ?_) (fun hb23 => ?_))))
  · skip
    refine zk (zi (YJ (S := []) (zD [] (qA) rfl trivial rfl) ?_))
    rintro _ rfl
    refine YJ (S := [_]) (zR 1 rfl rfl rfl k9 rfl (m9 rfl)) ?_
    rintro _ rfl
    exact zP (zn (WO (fn := Tryz.f4) (fun _ _ h => h) (RM.fin (Rs.le (Rs.one rfl (zhS 1 rfl rfl k9 rfl)) (zZ (by rfl))))))
  · have hq : zgL l 10 := by simpa using hb23
    refine zr (zn (zk (zi (YJ (S := []) (zC [] (zek) rfl trivial d9 trivial (fun _ h => h) rfl) ?_))))
    rintro _ ⟨⟨g1, s1⟩, rfl⟩
    refine za rfl (zI rfl) (za rfl (zm rfl rfl) (za rfl (zm rfl rfl) (YJ (S := []) (zM (zs := [.slice none 0 0]) k9 rfl) ?_)))
    rintro _ ⟨g8, rfl⟩
    refine za rfl (zeP rfl) (YJ (S := [_]) (zw 6 rfl rfl rfl k9 rfl (m9 rfl)) ?_)
    rintro _ rfl
    refine zP (zn (zk (yd (zhL (gb := g1) (l := hL) s1) [2, 3, 4, 5] d9 (sX rfl) ?_)))
    rintro _ ⟨Fb, rfl⟩
    refine zi (za rfl (zI rfl) (YJ (S := []) (zY (qi) rfl trivial rfl) ?_))
    rintro _ rfl
    refine YJ (zC [3] (con_new g1 hL Fb Vx jp Ku) rfl ⟨zb _, zb _, trivial⟩ d9 ⟨lR rfl, trivial⟩ (fun _ h => h) rfl) ?_
    rintro _ ⟨⟨F24, gr, H24⟩, rfl⟩
    refine za rfl (zI rfl) (za rfl (zm rfl rfl) (za rfl (zm rfl rfl) (za rfl (zeP rfl) (za rfl (zeP rfl) (zP (zn (zk (zO (σ' := zN [(0, lsD zag l), (1, iD r), (5, pA g5), (6, pA g6), (7, pA g1), (8, pA g8), (9, pA gr), (10, iD 0)] [.r F24 (bkP g1 hL), .r H24 (Yj gr Rnd.S00), .c g8 [lsD Yz hL], .c g5 [iD many], .c g6 [yj false]]) (⟨⟨_, rfl, (sT rfl)⟩, [3, 4, 2, 0, 1], by decide, ⟨lR rfl, ⟨lR rfl, ⟨la rfl, ⟨la rfl, ⟨⟨_, rfl, ⟨zb _, trivial⟩⟩, trivial⟩⟩⟩⟩⟩⟩) (Ys (fun σ => ∃ g11, σ = zN [(0, lsD zag l), (1, iD r), (5, pA g5), (6, pA g6), (7, pA g1), (9, pA gr), (10, iD 0), (11, pA g11)] [.r F24 (bkP g1 hL), .r H24 (Yj gr Rnd.S00), .c g11 [lsD Yz Rnd.S00.bk, lsD YB Rnd.S00.ws, lsD yX Rnd.S00.es, lsD Z8 Rnd.S00.ks, iD Rnd.S00.ck, lsD encE Rnd.S00.en], .c g5 [iD many], .c g6 [yj false]]) ?_ ?_)))))))))
    · refine yh [] (.r 0 (.n 1 (.n 2 (.r 3 (.r 4 (.r 5 (.n 6 (.e 7 (.r 8 .fin) .no) .no)))) (.n 6 (.n 2 (.r 3 (.r 4 (.r 5 (.e 7 (.r 8 .fin) .no)))) .no) .no)) (.n 6 (.n 1 (.n 2 (.r 3 (.r 4 (.r 5 (.e 7 (.r 8 .fin) .no)))) .no) .no) .no))) k9 k9 (fun d _ _ _ _ h => by cases d <;> exact h) (zl rfl rfl (zA 2 1 rfl rfl k9 rfl zh) (ZP rfl (zY (qi) rfl trivial rfl) ?_ ?_))
      · rintro _ rfl
        refine ZG rfl (Zb (jQ hL Vx d9) rfl ⟨zb _, zb _, trivial⟩ rfl) ?_ ?_
        · rintro _ _ ⟨⟨⟩, rfl, rfl⟩
          refine zl rfl rfl (zI rfl) (zl rfl rfl (zm rfl rfl) (zl rfl rfl (zm rfl rfl) (ZA rfl (EfB.alloc (zs := [.slice none 0 0, .slice none 0 0, .slice none 0 0, .slice none 0 0, .int .i64 0, .slice none 0 0]) k9 rfl) ?_ yf)))
          rintro g11 _ rfl
          refine yW rfl (zw 5 rfl rfl rfl k9 rfl (mR _ mC)) ?_ yf
          rintro _ rfl
          exact zl rfl rfl (zeP rfl) (yz (yA ⟨g11, rfl⟩ (⟨⟨_, rfl, (sT rfl)⟩, [0, 1, 5, 3, 4], by decide, ⟨lR rfl, ⟨lR rfl, ⟨⟨_, rfl, (by rw [show qW hL Vx = Rnd.start hL Vx from if_pos Ku]; exact yl _)⟩, (sX rfl)⟩⟩⟩⟩)))
        refine ZA rfl (EfB.alloc (zs := [.slice none 0 0, .slice none 0 0, .slice none 0 0, .slice none 0 0, .int .i64 0, .slice none 0 0]) k9 rfl) ?_ yf
        rintro g11 _ rfl
        refine ZG rfl (Zb (jQ hL Vx d9) rfl ⟨zb _, zb _, trivial⟩ rfl) ?_ yf
        rintro _ _ ⟨⟨⟩, rfl, rfl⟩
        refine zl rfl rfl (zI rfl) (zl rfl rfl (zm rfl rfl) (zl rfl rfl (zm rfl rfl) (yW rfl (zw 5 rfl rfl rfl k9 rfl (mL _ (mR _ mC))) ?_ yf)))
        rintro _ rfl
        exact zl rfl rfl (zeP rfl) (yz (yA ⟨g11, rfl⟩ (⟨⟨_, rfl, (sT rfl)⟩, [0, 1, 5, 3, 4], by decide, ⟨lR rfl, ⟨lR rfl, ⟨⟨_, rfl, (by rw [show qW hL Vx = Rnd.start hL Vx from if_pos Ku]; exact yl _)⟩, (sX rfl)⟩⟩⟩⟩)))
      refine ZA rfl (EfB.alloc (zs := [.slice none 0 0, .slice none 0 0, .slice none 0 0, .slice none 0 0, .int .i64 0, .slice none 0 0]) k9 rfl) ?_ yf
      rintro g11 _ rfl
      refine ZP rfl (zY (qi) rfl trivial rfl) ?_ yf
      rintro _ rfl
      refine ZG rfl (Zb (jQ hL Vx d9) rfl ⟨zb _, zb _, trivial⟩ rfl) ?_ yf
      rintro _ _ ⟨⟨⟩, rfl, rfl⟩
      refine zl rfl rfl (zI rfl) (zl rfl rfl (zm rfl rfl) (zl rfl rfl (zm rfl rfl) (yW rfl (zw 5 rfl rfl rfl k9 rfl (mL _ (mR _ mC))) ?_ yf)))
      rintro _ rfl
      exact zl rfl rfl (zeP rfl) (yz (yA ⟨g11, rfl⟩ (⟨⟨_, rfl, (sT rfl)⟩, [0, 1, 5, 3, 4], by decide, ⟨lR rfl, ⟨lR rfl, ⟨⟨_, rfl, (by rw [show qW hL Vx = Rnd.start hL Vx from if_pos Ku]; exact yl _)⟩, (sX rfl)⟩⟩⟩⟩)))
    · rintro _ ⟨g11, rfl⟩
      refine zn (zk (zi (za rfl (zI rfl) (za rfl (zcJ rfl rfl k9) (za rfl (zI rfl) (yL rfl rfl (rfl) rfl rfl (zI rfl) (yL rfl rfl (rfl) rfl rfl (yM rfl rfl) (za rfl (zB rfl (rfl) rfl) (za rfl (zeP rfl) (zP (zn (zk (zk (zO (σ' := zN [(0, lsD zag l), (1, iD r), (5, pA g5), (6, pA g6), (7, pA g1), (9, pA gr), (11, pA g11), (13, yj true)] [.r F24 (bkP g1 hL), .r H24 (Yj gr Rnd.S00), .c g11 [lsD Yz Rnd.S00.bk, lsD YB Rnd.S00.ws, lsD yX Rnd.S00.es, lsD Z8 Rnd.S00.ks, iD Rnd.S00.ck, lsD encE Rnd.S00.en], .c g5 [iD many], .c g6 [yj false]]) (sB [0, 1, 2, 3, 4] rfl rfl) (zi (za rfl (zeP rfl) (zP (zn (zX (Zw (ι := {p : Nat × Rnd.S × Nat × LN × LN // p.1 ≤ l.length ∧ Rnd.Good p.2.1 ∧ Rnd.Sz p.2.1}) (fun p => zN [(0, lsD zag l), (1, iD r), (5, pA g5), (6, pA g6), (7, pA g1), (9, pA p.1.2.2.1), (11, pA g11), (13, yj true), (14, iD (p.1.1 : Int))] [.r p.1.2.2.2.1 (bkP g1 hL), .r p.1.2.2.2.2 (Yj p.1.2.2.1 p.1.2.1), .c g11 [lsD Yz p.1.2.1.bk, lsD YB p.1.2.1.ws, lsD yX p.1.2.1.es, lsD Z8 p.1.2.1.ks, iD p.1.2.1.ck, lsD encE p.1.2.1.en], .c g5 [iD many], .c g6 [yj false]]) (fun p => l.length - p.1.1) (⟨(0, Rnd.S00, gr, F24, H24), Nat.zero_le _, Rnd.good_start jp Ku, sz_start⟩) ?_ ?_))))))))))))))))))))
      · exact (sB [0, 1, 2, 3, 4] rfl rfl)
      · rintro ⟨⟨i, s, gr, Fb, F1⟩, hi, hg, hz⟩ K0 hK0
        dsimp only at hi hg hz ⊢
        refine zk (zk (zi (za rfl (zI rfl) (za rfl (zI rfl) (za rfl (yx (e := 60) rfl k9) (za rfl (yF rfl rfl) (za rfl (zI rfl) (zU 51 rfl (fun hb51 => ?_) (fun hb51 => ?_)))))))))
        · have h51 := oT hb51
          refine yL rfl rfl (hb51) rfl rfl (zI rfl) (za rfl (zB rfl (hb51) rfl) (zP (zn (zW rfl (rfl) (zr (zn (zk (zX ?_))))))))
          obtain ⟨x, hx⟩ : ∃ x, l[i]? = some x := ⟨_, List.getElem?_eq_getElem o9⟩
          have hsx := hq.1 x (List.mem_of_getElem? hx)
          refine yh (Fb ++ (F1 ++ (g11 :: []))) (.r 0 (.r 1 (.q 2 (.r 3 (.r 4 (.r 5 (.q 6 (.e 7 (.r 8 (.r 9 (.r 10 (.r 11 (.r 12 (.e 13 (.r 14 .fin) .no)))))) .no)))))))) k9 k9 (fun d _ _ _ _ h => by cases d <;> exact h) (zl rfl rfl (zI rfl) (zl rfl rfl (zI rfl) (Yy rfl rfl (zA 2 6 rfl rfl k9 rfl zh) (zl rfl rfl (zI rfl) (zl rfl rfl (zI rfl) (zl rfl rfl (yp (e := 60) 12 rfl rfl k9 k9 o9 (by simpa using hx)) (Yy rfl rfl (ZK 12 rfl k9 d9 (show 12 ≤ 12 by decide) s9) (yW rfl (zC [0, 1] (con_do g1 gr Fb F1 s x hg hz hsx) rfl ⟨zb _, zb _, zb _, zb _, trivial⟩ d9 (sX rfl) (Vf (fun _ h => mL _ h) (Vf (fun _ h => mR _ (mL _ h)) Z3)) rfl) ?_ yf))))))))
          rintro _ ⟨q65, rfl⟩
          refine zl rfl rfl (zI rfl) (zl rfl rfl (zm rfl rfl) (zl rfl rfl (zm rfl rfl) (zl rfl rfl (zm rfl rfl) (zl rfl rfl (zeP rfl) (yW rfl (zw 0 rfl rfl rfl k9 rfl (mR _ (mR _ mC))) ?_ yf)))))
          rintro _ rfl
          refine zl rfl rfl (zeP rfl) (yz (yc (zn ?_)))
          obtain ⟨s2, hs2⟩ : ∃ s2, s2 = Rnd.doS s x := ⟨_, rfl⟩
          have hg2 : Rnd.Good s2 := hs2 ▸ Rnd.Good.doS hg x
          have hz2 : Rnd.Sz s2 := hs2 ▸ hz.doS x
          obtain ⟨Fb2, gr2, F2⟩ := q65
          dsimp only
          exact zO (σ' := zN [(0, lsD zag l), (1, iD r), (5, pA g5), (6, pA g6), (7, pA g1), (9, pA gr2), (11, pA g11), (13, yj true), (14, iD (i : Int))] [.r Fb2 (bkP g1 hL), .r F2 (Yj gr2 s2), .c g11 [lsD Yz s2.bk, lsD YB s2.ws, lsD yX s2.es, lsD Z8 s2.ks, iD s2.ck, lsD encE s2.en], .c g5 [iD many], .c g6 [yj false]]) (⟨⟨_, rfl, (sT rfl)⟩, [3, 4, 0, 1, 2], by decide, ⟨lR rfl, ⟨⟨_, rfl, (by rw [hs2]; exact yu _)⟩, ⟨⟨_, rfl, (by rw [hs2]; exact yl _)⟩, (sX rfl)⟩⟩⟩⟩) (zi (za rfl (zI rfl) (za rfl (yC rfl rfl ⟨by omega, by omega⟩) (za rfl (zeP rfl) (zP (fun a w hh => hK0 (⟨(i + 1, s2, gr2, Fb2, F2), by dsimp only; omega, hg2, hz2⟩) (by dsimp only; omega) a w (hh.sub (⟨⟨_, rfl, ⟨lq rfl, ⟨lq rfl, ⟨lq rfl, ⟨lq rfl, ⟨lq rfl, ⟨lq rfl, ⟨lq rfl, ⟨lq rfl, ⟨⟨_, rfl, zF s9⟩, trivial⟩⟩⟩⟩⟩⟩⟩⟩⟩⟩, [0, 1, 2, 3, 4], by decide, (sX rfl)⟩))))))))
        · have h51 := oF hb51
          refine zh1 rfl rfl (hb51) rfl rfl (za rfl (zv rfl (hb51) rfl) (zP (zn (zE rfl (rfl) (yZ ?_)))))
          repeat (first | refine Ze ?_ | refine Zf d9 ?_)
          refine Zn (zn (zk (zk (zi (za rfl (zI rfl) (za rfl (yS rfl) (zP (zn (zE rfl (rfl) (zr (zn (zk (zO (σ' := zN [(1, iD r), (5, pA g5), (6, pA g6), (7, pA g1), (9, pA gr), (11, pA g11)] [.r Fb (bkP g1 hL), .r F1 (Yj gr s), .c g11 [lsD Yz s.bk, lsD YB s.ws, lsD yX s.es, lsD Z8 s.ks, iD s.ck, lsD encE s.en], .c g5 [iD many], .c g6 [yj false]]) (sB [0, 1, 2, 3, 4] rfl rfl) (zi (za rfl (zI rfl) (za rfl (zI rfl) (YJ (zC [1] (qv gr F1 s r hg) rfl ⟨zb _, zb _, trivial⟩ d9 ⟨lR rfl, trivial⟩ (fun _ h => h) rfl) ?_)))))))))))))))))
          rintro _ ⟨⟨F72, gq⟩, rfl⟩
          refine za rfl (zeP rfl) (zP (zn (zk (zk (zi (za rfl (zI rfl) (za rfl (Rd.eqFnI rfl rfl k9) (zP (zn (zE rfl (rfl) (zr (zn (zk (q9 5 15 rfl rfl (zO (σ' := zN [(1, iD r), (5, pA g5), (6, pA g6), (7, pA g1), (9, pA gr), (11, pA g11), (15, fnD 62 [paD [lsD yX (yU s r)]])] [.r Fb (bkP g1 hL), .r F72 (Yj gr s), .c g11 [lsD Yz s.bk, lsD YB s.ws, lsD yX s.es, lsD Z8 s.ks, iD s.ck, lsD encE s.en], .c g5 [iD many], .c g6 [yj false]]) (sB [0, 4, 1, 2, 3] rfl rfl) (zi (za rfl (zI rfl) (za rfl (zI rfl) (YJ (S := []) (zY (qa 0) rfl ⟨zb _, trivial⟩ rfl) ?_)))))))))))))))))))
          rintro _ rfl
          refine YJ (zC [0] (Yq nmB 0 5000 (ZF 0) [] jp) rfl ⟨zb _, zb _, zb _, zb _, zb _, Zz, trivial⟩ d9 ⟨lR rfl, trivial⟩ (fun _ h => h) rfl) ?_
          rintro _ ⟨F78, rfl⟩
          refine za rfl (zI rfl) (YJ (zC [0] (zh3 gr F72 s) rfl ⟨zb _, trivial⟩ d9 ⟨lR rfl, trivial⟩ (fun _ h => h) rfl) ?_)
          rintro _ ⟨F80, rfl⟩
          refine za rfl (zh7 rfl rfl) (YJ (zC [4] (zcu gr F80 s (Rnd.sld hL nmB 0 5000 (ZF 0) []) _ hg) rfl ⟨zb _, zb _, zb _, trivial⟩ d9 ⟨lR rfl, trivial⟩ (fun _ h => h) rfl) ?_)
          rintro _ ⟨F82, rfl⟩
          refine zP (zn (zk (zO (σ' := zN [(1, iD r), (5, pA g5), (6, pA g6), (11, pA g11), (15, fnD 62 [paD [lsD yX (yU s r)]])] [.c g11 [lsD Yz s.bk, lsD YB s.ws, lsD yX s.es, lsD Z8 s.ks, iD s.ck, lsD encE s.en], .c g5 [iD many], .c g6 [yj false]]) (sB [0, 1, 2] rfl rfl) (zi (za rfl (zA 0 6 rfl rfl k9 rfl zh) (za rfl (zI rfl) (YJ (S := []) (zC [] (con_Of44 s r hg (by have := es_len hg hz; omega)) rfl ⟨zb _, zb _, trivial⟩ d9 trivial (fun _ h => h) rfl) ?_)))))))
          rintro _ ⟨⟨⟩, rfl⟩
          refine YJ (S := []) (zM (zs := [.slice none 0 0]) k9 rfl) ?_
          rintro _ ⟨g16, rfl⟩
          refine YJ (S := [_]) (zR 3 rfl rfl rfl k9 rfl (m9 rfl)) ?_
          rintro _ rfl
          refine zP (zn (zk (zk ?_)))
          obtain ⟨R, hR⟩ : ∃ R, R = yU s r := ⟨_, rfl⟩
          have hll2 := jf hg r
          have hRf := ofR_fit hg r
          rw [← hR] at hll2 hRf
          refine zO (σ' := zN [(5, pA g5), (6, pA g6), (16, pA g16), (15, fnD 62 [paD [lsD yX R]])] [.c g5 [iD many], .c g6 [yj false], .c g16 [lsD yX R]]) (⟨⟨_, rfl, ⟨lq rfl, ⟨lq rfl, ⟨lq rfl, ⟨⟨_, rfl, (by rw [hR]; exact zb _)⟩, trivial⟩⟩⟩⟩⟩, [1, 2, 3], by decide, ⟨la rfl, ⟨la rfl, ⟨⟨_, rfl, ⟨(by rw [hR]; exact zb _), trivial⟩⟩, trivial⟩⟩⟩⟩) (zi (YJ (S := []) (zM (zs := [.int .i64 0]) k9 rfl) ?_))
          rintro _ ⟨g17, rfl⟩
          refine YJ (S := [_]) (zR 3 rfl rfl rfl k9 rfl (m9 rfl)) ?_
          rintro _ rfl
          refine zP (zn (zX (zeJ 2 (zk (zk (zO (σ' := zN [(5, pA g5), (6, pA g6), (16, pA g16), (15, fnD 62 [paD [lsD yX R]]), (17, pA g17)] [.c g5 [iD many], .c g6 [yj false], .c g16 [lsD yX R], .c g17 [iD 0]]) (sB [0, 1, 2, 3] rfl rfl) (zi (za rfl (zg 3 rfl rfl rfl k9 zh) (za rfl (yF rfl rfl) (zP (zn (zW rfl d9 (zr (zn (zk (zX (zk (zi (YJ (S := []) (zM (zs := [.int .i64 0]) k9 rfl) ?_)))))))))))))))))))
          rintro _ ⟨g18, rfl⟩
          refine YJ (S := [_]) (zR 4 rfl rfl rfl k9 rfl (m9 rfl)) ?_
          rintro _ rfl
          refine zP (zn (zk (zk (zO (σ' := zN [(5, pA g5), (6, pA g6), (16, pA g16), (15, fnD 62 [paD [lsD yX R]]), (17, pA g17), (18, pA g18)] [.c g5 [iD many], .c g6 [yj false], .c g16 [lsD yX R], .c g17 [iD 0], .c g18 [iD (0)]]) (sB [0, 1, 2, 3, 4] rfl rfl) (zi (za rfl (zI rfl) (zP (zn (zX (jV (gf := 62) (ps := [91, 92]) (ib := ibV) (dd := ddV) (items := (itE R)) (fun i bx => (0 < i → (i : Int) < many) ∧ bx = [.c g5 [iD many], .c g6 [yj false], .c g16 [lsD yX R], .c g17 [iD 0], .c g18 [iD ((i : Int))]]) (fun o i bx => match o with | none => False | some n => n = 4 ∧ i < R.length ∧ (0 < i → (i : Int) < many) ∧ many ≤ (i : Int) + 1 ∧ bx = [.c g5 [iD many], .c g6 [yj false], .c g16 [lsD yX R], .c g17 [iD 0], .c g18 [iD ((i : Int) + 1)]]) (fun i x k σ => ∃ g20, (0 < i → (i : Int) < many) ∧ σ = zN [(5, pA g5), (6, pA g6), (16, pA g16), (17, pA g17), (18, pA g18), (19, iD (x.1 : Int)), (20, pA g20)] [.c g5 [iD many], .c g6 [yj false], .c g16 [lsD yX R], .c g17 [iD 0], .c g18 [iD ((i : Int))], .c g20 [yY x.2.acc, iD x.2.rnd, iD x.2.ser, bD x.2.box, bD x.2.tag]]) qH (Yx R o9 hRf) rfl (⟨fun h => absurd h (Nat.lt_irrefl 0), rfl⟩) k9 (fun _ _ => rfl) ?_ ?_ ?_ ?_ ?_))))))))))
          · rintro i x k hx bx ⟨hm, rfl⟩ y base w0
            refine Z0 (yJ k9 (fun _ _ h => h) (za rfl (zeP rfl) (zP (Zr (yJ k9 (fun _ _ h => h) (YJ (S := []) (zM (zs := [.string ⟨#[]⟩, .int .i64 0, .int .i64 0, .slice none 0 0, .slice none 0 0]) k9 rfl) ?_))))))
            rintro _ ⟨g20, rfl⟩
            refine YJ (S := [_]) (zw 5 rfl rfl rfl k9 rfl (m9 rfl)) ?_
            rintro _ rfl
            exact zP (jW (σ' := zN [(5, pA g5), (6, pA g6), (16, pA g16), (17, pA g17), (18, pA g18), (19, iD (x.1 : Int)), (20, pA g20)] [.c g5 [iD many], .c g6 [yj false], .c g16 [lsD yX R], .c g17 [iD 0], .c g18 [iD ((i : Int))], .c g20 [yY x.2.acc, iD x.2.rnd, iD x.2.ser, bD x.2.box, bD x.2.tag]]) ⟨g20, hm, rfl⟩ (sB [0, 1, 2, 3, 4, 5] rfl rfl))
          · rintro i x k hx _ ⟨g20, hm, rfl⟩ y base w0
            obtain ⟨hx1, hx2⟩ := zaX (j := x.1) (e := x.2) hx
            have hlt := (List.getElem?_eq_some_iff.1 hx2).1
            refine jS (Z0 (Z0 (Wf [] (.r 0 (.r 1 (.r 2 (.r 3 (.r 4 (.r 5 (.r 6 (.r 7 (.r 8 (.r 9 (.r 10 (.r 11 (.r 12 (.r 13 (.r 14 (.n 15 (.r 16 (.r 17 .fin)) .no)))))))))))))))) k9 (fun _ _ h => h) k9 k9 (fun d _ _ _ _ h => by cases d <;> exact h) (zl rfl rfl (zI rfl) (zl rfl rfl (zg 4 rfl rfl rfl k9 zh) (zl rfl rfl (ye rfl rfl) (zl rfl rfl (zI rfl) (zG rfl rfl rfl (by simp [hx1]) rfl rfl (zg 4 rfl rfl rfl k9 zh) (zG rfl rfl rfl (by simp [hx1]) rfl rfl (zg 2 rfl rfl rfl k9 zh) (zG rfl rfl rfl (by simp [hx1]) rfl rfl (yx (e := 58) rfl k9) (zG rfl rfl rfl (by simp [hx1]) rfl rfl (ZB rfl rfl) (zl rfl rfl (zv rfl (by simp [hx1]) rfl) (zl rfl rfl (zI rfl) (zG rfl rfl rfl (by simp; omega) rfl rfl (zA 5 5 rfl rfl k9 rfl zh) (zG rfl rfl rfl (by simp; omega) rfl rfl (zg 2 rfl rfl rfl k9 zh) (zG rfl rfl rfl (by simp; omega) rfl rfl (zg 4 rfl rfl rfl k9 zh) (zG rfl rfl rfl (by simp; omega) rfl rfl (yp (e := 58) 5 rfl rfl k9 k9 o9 (by simpa using hx2)) (zG rfl rfl rfl (by simp; omega) rfl rfl (ZK 5 rfl k9 d9 (show 5 ≤ 5 by decide) s9) (jx rfl rfl rfl (by simp; omega) rfl (zD [] (VX x.2 x.2) rfl ⟨(ZQ ⟨(zo (zb _)), (zo (zb _)), (zo (zb _)), (zo (zb _)), (zo (zb _)), trivial⟩), (ZQ ⟨(zo (zb _)), (zo (zb _)), (zo (zb _)), (zo (zb _)), (zo (zb _)), trivial⟩), trivial⟩ rfl) ?_ yf)))))))))))))))))))
            rintro _ rfl
            refine zG rfl rfl rfl (by simp; omega) rfl rfl (yS rfl) (zl rfl rfl (zv rfl (by simp; omega) rfl) (yz (Zr (Wg rfl s9 (We (Zr (Z0 (yJ k9 (fun _ _ h => h) (za rfl (zg 4 rfl rfl rfl k9 zh) (za rfl (yC rfl rfl ⟨by omega, by omega⟩) (YJ (S := [_]) (zR 4 rfl rfl rfl k9 rfl (m9 rfl)) ?_)))))))))))
            rintro _ rfl
            refine zP (Zr (Z0 (yJ k9 (fun _ _ h => h) (za rfl (zg 3 rfl rfl rfl k9 zh) (za rfl (yM rfl rfl) (za rfl (zI rfl) (yL rfl rfl d9 rfl rfl (zg 4 rfl rfl rfl k9 zh) (yL rfl rfl d9 rfl rfl (zg 0 rfl rfl rfl k9 zh) (yL rfl rfl d9 rfl rfl (ZB rfl rfl) (za rfl (zB rfl d9 rfl) (zP (Zr (Wh rfl (fun hb119 => ?_) (fun hb119 => ?_))))))))))))))
            · have hM := oT hb119
              refine SWr.exit' ?_
              repeat (first | refine Ze ?_ | refine Zf d9 ?_)
              exact SE.rnd (σ' := zN [] [.c g5 [iD many], .c g6 [yj false], .c g16 [lsD yX R], .c g17 [iD 0], .c g18 [iD ((i : Int) + 1)]]) ⟨rfl, hlt, hm, by omega, rfl⟩ (sB [0, 1, 2, 3, 4] rfl rfl)
            · have hM := oF hb119
              exact We (yc (jW (σ' := zN [] [.c g5 [iD many], .c g6 [yj false], .c g16 [lsD yX R], .c g17 [iD 0], .c g18 [iD (((i + 1 : Nat) : Int))]]) ⟨fun _ => by omega, rfl⟩ (⟨⟨_, rfl, trivial⟩, [0, 1, 2, 3, 4], by decide, ⟨la rfl, ⟨la rfl, ⟨la rfl, ⟨la rfl, ⟨⟨_, rfl, ⟨zF s9, trivial⟩⟩, trivial⟩⟩⟩⟩⟩⟩)))
          · rintro dk0 bx ⟨hm, rfl⟩
            rw [Ww] at hm
            refine yc (zn (zk (zi (za rfl (zg 3 rfl rfl rfl k9 zh) (za rfl (yM rfl rfl) (za rfl (zI rfl) (yL rfl rfl d9 rfl rfl (zg 4 rfl rfl rfl k9 zh) (yL rfl rfl d9 rfl rfl (zg 2 rfl rfl rfl k9 zh) (yL rfl rfl d9 rfl rfl (yx (e := 58) rfl k9) (yL rfl rfl d9 rfl rfl (zg 0 rfl rfl rfl k9 zh) (yL rfl rfl d9 rfl rfl (zh7 rfl rfl) (yL rfl rfl d9 rfl rfl (Rd.minI rfl rfl) (yL rfl rfl d9 rfl rfl (ye rfl rfl) (za rfl (zB rfl d9 rfl) (za rfl (zI rfl) (yL rfl rfl (by first | (simp [Ww]; omega) | simp [Ww]) rfl rfl (zg 3 rfl rfl rfl k9 zh) (yL rfl rfl (by first | (simp [Ww]; omega) | simp [Ww]) rfl rfl (yM rfl rfl) (yL rfl rfl (by first | (simp [Ww]; omega) | simp [Ww]) rfl rfl (zI rfl) (zh1 rfl rfl d9 rfl rfl (zh1 rfl rfl d9 rfl rfl (zh1 rfl rfl d9 rfl rfl (zh1 rfl rfl d9 rfl rfl (yL rfl rfl (by first | (simp [Ww]; omega) | simp [Ww]) rfl rfl (zv rfl d9 rfl) (za rfl (zv rfl (by first | (simp [Ww]; omega) | simp [Ww]) rfl) (zP (zn (zE rfl (rfl) (zr (yc (zn (zk (zk (zi (za rfl (zg 3 rfl rfl rfl k9 zh) (zP (zn (zO (σ' := zN [(5, pA g5), (6, pA g6), (16, pA g16), (15, fnD 62 [paD [lsD yX R]]), (141, iD 0)] [.c g5 [iD many], .c g6 [yj false], .c g16 [lsD yX R], .r [dk0] dfR]) (sB [0, 1, 2, 5] rfl rfl) (zi (YJ (S := []) (zM (zs := [.int .i64 0]) k9 rfl) ?_)))))))))))))))))))))))))))))))))))))))
            rintro _ ⟨g17, rfl⟩
            refine YJ (S := [_]) (zR 4 rfl rfl rfl k9 rfl (m9 rfl)) ?_
            rintro _ rfl
            refine zP (zn (zi (za rfl (zg 4 rfl rfl rfl k9 zh) (za rfl (yC rfl rfl ⟨by decide, by decide⟩) (YJ (S := [_]) (zR 4 rfl rfl rfl k9 rfl (m9 rfl)) ?_)))))
            rintro _ rfl
            refine zP (Kj (zk (zk (zO (σ' := zN [(5, pA g5), (6, pA g6), (16, pA g16), (15, fnD 62 [paD [lsD yX R]]), (17, pA g17)] [.c g5 [iD many], .c g6 [yj false], .c g16 [lsD yX R], .c g17 [iD 1], .r [dk0] dfR]) (sB [0, 1, 2, 4, 3] rfl rfl) (zi (za rfl (zg 3 rfl rfl rfl k9 zh) (za rfl (yF rfl rfl) (zP (zn (zW rfl d9 (zr (zn (zk (zX (zk (zi (YJ (S := []) (zM (zs := [.int .i64 0]) k9 rfl) ?_)))))))))))))))))
            rintro _ ⟨g18, rfl⟩
            refine YJ (S := [_]) (zR 5 rfl rfl rfl k9 rfl (m9 rfl)) ?_
            rintro _ rfl
            refine zP (zn (zk (zk (zO (σ' := zN [(5, pA g5), (6, pA g6), (16, pA g16), (15, fnD 62 [paD [lsD yX R]]), (17, pA g17), (18, pA g18)] [.c g5 [iD many], .c g6 [yj false], .c g16 [lsD yX R], .c g17 [iD 1], .c g18 [iD (0)], .r [dk0] dfR]) (sB [0, 1, 2, 3, 5, 4] rfl rfl) (zi (za rfl (zI rfl) (zP (zn (zX (jV (gf := 62) (ps := [91, 92]) (ib := ibV) (dd := ddV) (items := (itE R)) (fun i bx => bx = [.c g5 [iD many], .c g6 [yj false], .c g16 [lsD yX R], .c g17 [iD 1], .c g18 [iD ((i : Int))], .r [dk0] dfR]) (fun o i bx => match o with | none => False | some n => False) (fun i x k σ => ∃ g20, σ = zN [(5, pA g5), (6, pA g6), (16, pA g16), (17, pA g17), (18, pA g18), (19, iD (x.1 : Int)), (20, pA g20)] [.c g5 [iD many], .c g6 [yj false], .c g16 [lsD yX R], .c g17 [iD 1], .c g18 [iD ((i : Int))], .r [dk0] dfR, .c g20 [yY x.2.acc, iD x.2.rnd, iD x.2.ser, bD x.2.box, bD x.2.tag]]) qH (Yx R o9 hRf) rfl (rfl) k9 (fun _ _ => rfl) ?_ ?_ ?_ ?_ ?_))))))))))
            · rintro i x k hx bx rfl y base w0
              refine Z0 (yJ k9 (fun _ _ h => h) (za rfl (zeP rfl) (zP (Zr (yJ k9 (fun _ _ h => h) (YJ (S := []) (zM (zs := [.string ⟨#[]⟩, .int .i64 0, .int .i64 0, .slice none 0 0, .slice none 0 0]) k9 rfl) ?_))))))
              rintro _ ⟨g20, rfl⟩
              refine YJ (S := [_]) (zw 6 rfl rfl rfl k9 rfl (m9 rfl)) ?_
              rintro _ rfl
              exact zP (jW (σ' := zN [(5, pA g5), (6, pA g6), (16, pA g16), (17, pA g17), (18, pA g18), (19, iD (x.1 : Int)), (20, pA g20)] [.c g5 [iD many], .c g6 [yj false], .c g16 [lsD yX R], .c g17 [iD 1], .c g18 [iD ((i : Int))], .r [dk0] dfR, .c g20 [yY x.2.acc, iD x.2.rnd, iD x.2.ser, bD x.2.box, bD x.2.tag]]) ⟨g20, rfl⟩ (sB [0, 1, 2, 3, 4, 5, 6] rfl rfl))
            · rintro i x k hx _ ⟨g20, rfl⟩ y base w0
              obtain ⟨hx1, hx2⟩ := zaX (j := x.1) (e := x.2) hx
              have hlt := (List.getElem?_eq_some_iff.1 hx2).1
              refine jS (Z0 (Z0 (Wf [] (.r 0 (.r 1 (.r 2 (.r 3 (.r 4 (.r 5 (.r 6 (.r 7 (.r 8 (.r 9 (.r 10 (.r 11 (.r 12 (.r 13 (.r 14 (.n 15 (.r 16 (.r 17 .fin)) .no)))))))))))))))) k9 (fun _ _ h => h) k9 k9 (fun d _ _ _ _ h => by cases d <;> exact h) (zl rfl rfl (zI rfl) (zl rfl rfl (zg 4 rfl rfl rfl k9 zh) (zl rfl rfl (ye rfl rfl) (zl rfl rfl (zI rfl) (zG rfl rfl rfl (by simp [hx1]) rfl rfl (zg 4 rfl rfl rfl k9 zh) (zG rfl rfl rfl (by simp [hx1]) rfl rfl (zg 2 rfl rfl rfl k9 zh) (zG rfl rfl rfl (by simp [hx1]) rfl rfl (yx (e := 58) rfl k9) (zG rfl rfl rfl (by simp [hx1]) rfl rfl (ZB rfl rfl) (zl rfl rfl (zv rfl (by simp [hx1]) rfl) (zl rfl rfl (zI rfl) (zG rfl rfl rfl (by simp; omega) rfl rfl (zA 6 5 rfl rfl k9 rfl zh) (zG rfl rfl rfl (by simp; omega) rfl rfl (zg 2 rfl rfl rfl k9 zh) (zG rfl rfl rfl (by simp; omega) rfl rfl (zg 4 rfl rfl rfl k9 zh) (zG rfl rfl rfl (by simp; omega) rfl rfl (yp (e := 58) 5 rfl rfl k9 k9 o9 (by simpa using hx2)) (zG rfl rfl rfl (by simp; omega) rfl rfl (ZK 5 rfl k9 d9 (show 5 ≤ 5 by decide) s9) (jx rfl rfl rfl (by simp; omega) rfl (zD [] (VX x.2 x.2) rfl ⟨(ZQ ⟨(zo (zb _)), (zo (zb _)), (zo (zb _)), (zo (zb _)), (zo (zb _)), trivial⟩), (ZQ ⟨(zo (zb _)), (zo (zb _)), (zo (zb _)), (zo (zb _)), (zo (zb _)), trivial⟩), trivial⟩ rfl) ?_ yf)))))))))))))))))))
              rintro _ rfl
              refine zG rfl rfl rfl (by simp; omega) rfl rfl (yS rfl) (zl rfl rfl (zv rfl (by simp; omega) rfl) (yz (Zr (Wg rfl s9 (We (Zr (Z0 (yJ k9 (fun _ _ h => h) (za rfl (zg 4 rfl rfl rfl k9 zh) (za rfl (yC rfl rfl ⟨by omega, by omega⟩) (YJ (S := [_]) (zR 4 rfl rfl rfl k9 rfl (m9 rfl)) ?_)))))))))))
              rintro _ rfl
              exact zP (Zr (Z0 (yJ k9 (fun _ _ h => h) (za rfl (zg 3 rfl rfl rfl k9 zh) (za rfl (yM rfl rfl) (za rfl (zI rfl) (zh1 rfl rfl d9 rfl rfl (zh1 rfl rfl d9 rfl rfl (zh1 rfl rfl d9 rfl rfl (za rfl (zv rfl d9 rfl) (zP (Zr (Wg rfl (rfl) (We (yc (jW (σ' := zN [] [.c g5 [iD many], .c g6 [yj false], .c g16 [lsD yX R], .c g17 [iD 1], .c g18 [iD (((i + 1 : Nat) : Int))], .r [dk0] dfR]) rfl (⟨⟨_, rfl, trivial⟩, [0, 1, 2, 3, 4, 5], by decide, ⟨la rfl, ⟨la rfl, ⟨la rfl, ⟨la rfl, ⟨⟨_, rfl, ⟨zF s9, trivial⟩⟩, ⟨lR rfl, trivial⟩⟩⟩⟩⟩⟩⟩)))))))))))))))))
            · rintro dk1 bx rfl
              refine yc (zn (zk (zi (za rfl (zg 3 rfl rfl rfl k9 zh) (za rfl (yM rfl rfl) (za rfl (zI rfl) (zh1 rfl rfl d9 rfl rfl (zh1 rfl rfl d9 rfl rfl (zh1 rfl rfl d9 rfl rfl (zh1 rfl rfl d9 rfl rfl (zh1 rfl rfl d9 rfl rfl (zh1 rfl rfl d9 rfl rfl (zh1 rfl rfl d9 rfl rfl (za rfl (zv rfl d9 rfl) (za rfl (zI rfl) (yL rfl rfl (rfl) rfl rfl (zg 3 rfl rfl rfl k9 zh) (yL rfl rfl (rfl) rfl rfl (yM rfl rfl) (yL rfl rfl (rfl) rfl rfl (zI rfl) (yL rfl rfl d9 rfl rfl (zg 4 rfl rfl rfl k9 zh) (yL rfl rfl d9 rfl rfl (zg 2 rfl rfl rfl k9 zh) (yL rfl rfl d9 rfl rfl (yx (e := 58) rfl k9) (yL rfl rfl d9 rfl rfl (ye rfl rfl) (yL rfl rfl (rfl) rfl rfl (zB rfl d9 rfl) (za rfl (zv rfl (rfl) rfl) (zP (zn (zE rfl (by simp [Ww]) (zr (yc (zn (zk (zk (zi (za rfl (zg 3 rfl rfl rfl k9 zh) (zP (zn (zO (σ' := zN [(5, pA g5), (6, pA g6), (16, pA g16), (15, fnD 62 [paD [lsD yX R]]), (141, iD 1)] [.c g5 [iD many], .c g6 [yj false], .c g16 [lsD yX R], .r [dk0] dfR, .r [dk1] dfR]) (sB [0, 1, 2, 5, 6] rfl rfl) (zi (YJ (S := []) (zM (zs := [.int .i64 0]) k9 rfl) ?_)))))))))))))))))))))))))))))))))))))))
              rintro _ ⟨g17, rfl⟩
              refine YJ (S := [_]) (zR 5 rfl rfl rfl k9 rfl (m9 rfl)) ?_
              rintro _ rfl
              refine zP (zn (zi (za rfl (zg 5 rfl rfl rfl k9 zh) (za rfl (yC rfl rfl ⟨by decide, by decide⟩) (YJ (S := [_]) (zR 5 rfl rfl rfl k9 rfl (m9 rfl)) ?_)))))
              rintro _ rfl
              refine zP (Kj (zk (zk (zO (σ' := zN [(5, pA g5), (6, pA g6), (16, pA g16), (15, fnD 62 [paD [lsD yX R]]), (17, pA g17)] [.c g5 [iD many], .c g6 [yj false], .c g16 [lsD yX R], .c g17 [iD 2], .r [dk0] dfR, .r [dk1] dfR]) (sB [0, 1, 2, 5, 3, 4] rfl rfl) (zi (za rfl (zg 3 rfl rfl rfl k9 zh) (za rfl (yF rfl rfl) (zP (zn (zE rfl d9 (yZ ?_)))))))))))
              repeat (first | refine Ze ?_ | refine Zf d9 ?_)
              refine Zn (zn (zk (zO (σ' := zN [(6, pA g6)] [.c g6 [yj false], .r [dk0] dfR, .r [dk1] dfR]) (sB [1, 4, 5] rfl rfl) (zi (YJ (S := []) (zD [] (qA) rfl trivial rfl) ?_)))))
              rintro _ rfl
              refine YJ (S := [_]) (zR 0 rfl rfl rfl k9 rfl (m9 rfl)) ?_
              rintro _ rfl
              exact zP (zn (WO (fn := Tryz.f4) (fun _ _ h => h) (Vv 2 rfl (Vv 1 rfl (RM.fin (Rs.le (Rs.one rfl (zhS 0 rfl rfl k9 rfl)) (zZ (by rfl))))))))
            · rintro _ _ _ _ hX; exact hX.elim
            · rintro _ _ _ hX; exact hX.elim
          · rintro dk0 nq i bx ⟨rfl, hlt, hm, hM, rfl⟩
            repeat (first | refine Ze ?_ | refine Zf d9 ?_)
            refine Zn (zn (zk (zi (za rfl (zg 3 rfl rfl rfl k9 zh) (za rfl (yM rfl rfl) (za rfl (zI rfl) (yL rfl rfl d9 rfl rfl (zg 4 rfl rfl rfl k9 zh) (yL rfl rfl d9 rfl rfl (zg 2 rfl rfl rfl k9 zh) (yL rfl rfl d9 rfl rfl (yx (e := 58) rfl k9) (yL rfl rfl d9 rfl rfl (zg 0 rfl rfl rfl k9 zh) (yL rfl rfl d9 rfl rfl (zh7 rfl rfl) (yL rfl rfl d9 rfl rfl (Rd.minI rfl rfl) (yL rfl rfl d9 rfl rfl (ye rfl rfl) (za rfl (zB rfl d9 rfl) (za rfl (zI rfl) (yL rfl rfl (by first | (simp [Ww]; omega) | simp [Ww]) rfl rfl (zg 3 rfl rfl rfl k9 zh) (yL rfl rfl (by first | (simp [Ww]; omega) | simp [Ww]) rfl rfl (yM rfl rfl) (yL rfl rfl (by first | (simp [Ww]; omega) | simp [Ww]) rfl rfl (zI rfl) (zh1 rfl rfl d9 rfl rfl (zh1 rfl rfl d9 rfl rfl (zh1 rfl rfl d9 rfl rfl (zh1 rfl rfl d9 rfl rfl (yL rfl rfl (by first | (simp [Ww]; omega) | simp [Ww]) rfl rfl (zv rfl d9 rfl) (za rfl (zv rfl (by first | (simp [Ww]; omega) | simp [Ww]) rfl) (zP (zn (zE rfl (rfl) (zr (yc (zn (zk (zk (zi (za rfl (zg 3 rfl rfl rfl k9 zh) (zP (zn (zO (σ' := zN [(5, pA g5), (6, pA g6), (16, pA g16), (15, fnD 62 [paD [lsD yX R]]), (141, iD 0)] [.c g5 [iD many], .c g6 [yj false], .c g16 [lsD yX R], .r [dk0] dfR]) (sB [0, 1, 2, 5] rfl rfl) (zi (YJ (S := []) (zM (zs := [.int .i64 0]) k9 rfl) ?_)))))))))))))))))))))))))))))))))))))))
            rintro _ ⟨g17, rfl⟩
            refine YJ (S := [_]) (zR 4 rfl rfl rfl k9 rfl (m9 rfl)) ?_
            rintro _ rfl
            refine zP (zn (zi (za rfl (zg 4 rfl rfl rfl k9 zh) (za rfl (yC rfl rfl ⟨by decide, by decide⟩) (YJ (S := [_]) (zR 4 rfl rfl rfl k9 rfl (m9 rfl)) ?_)))))
            rintro _ rfl
            refine zP (Kj (zk (zk (zO (σ' := zN [(5, pA g5), (6, pA g6), (16, pA g16), (15, fnD 62 [paD [lsD yX R]]), (17, pA g17)] [.c g5 [iD many], .c g6 [yj false], .c g16 [lsD yX R], .c g17 [iD 1], .r [dk0] dfR]) (sB [0, 1, 2, 4, 3] rfl rfl) (zi (za rfl (zg 3 rfl rfl rfl k9 zh) (za rfl (yF rfl rfl) (zP (zn (zW rfl d9 (zr (zn (zk (zX (zk (zi (YJ (S := []) (zM (zs := [.int .i64 0]) k9 rfl) ?_)))))))))))))))))
            rintro _ ⟨g18, rfl⟩
            refine YJ (S := [_]) (zR 5 rfl rfl rfl k9 rfl (m9 rfl)) ?_
            rintro _ rfl
            refine zP (zn (zk (zk (zO (σ' := zN [(5, pA g5), (6, pA g6), (16, pA g16), (15, fnD 62 [paD [lsD yX R]]), (17, pA g17), (18, pA g18)] [.c g5 [iD many], .c g6 [yj false], .c g16 [lsD yX R], .c g17 [iD 1], .c g18 [iD (0)], .r [dk0] dfR]) (sB [0, 1, 2, 3, 5, 4] rfl rfl) (zi (za rfl (zI rfl) (zP (zn (zX (jV (gf := 62) (ps := [91, 92]) (ib := ibV) (dd := ddV) (items := (itE R)) (fun i bx => bx = [.c g5 [iD many], .c g6 [yj false], .c g16 [lsD yX R], .c g17 [iD 1], .c g18 [iD ((i : Int))], .r [dk0] dfR]) (fun o i bx => match o with | none => False | some n => False) (fun i x k σ => ∃ g20, σ = zN [(5, pA g5), (6, pA g6), (16, pA g16), (17, pA g17), (18, pA g18), (19, iD (x.1 : Int)), (20, pA g20)] [.c g5 [iD many], .c g6 [yj false], .c g16 [lsD yX R], .c g17 [iD 1], .c g18 [iD ((i : Int))], .r [dk0] dfR, .c g20 [yY x.2.acc, iD x.2.rnd, iD x.2.ser, bD x.2.box, bD x.2.tag]]) qH (Yx R o9 hRf) rfl (rfl) k9 (fun _ _ => rfl) ?_ ?_ ?_ ?_ ?_))))))))))
            · rintro i x k hx bx rfl y base w0
              refine Z0 (yJ k9 (fun _ _ h => h) (za rfl (zeP rfl) (zP (Zr (yJ k9 (fun _ _ h => h) (YJ (S := []) (zM (zs := [.string ⟨#[]⟩, .int .i64 0, .int .i64 0, .slice none 0 0, .slice none 0 0]) k9 rfl) ?_))))))
              rintro _ ⟨g20, rfl⟩
              refine YJ (S := [_]) (zw 6 rfl rfl rfl k9 rfl (m9 rfl)) ?_
              rintro _ rfl
              exact zP (jW (σ' := zN [(5, pA g5), (6, pA g6), (16, pA g16), (17, pA g17), (18, pA g18), (19, iD (x.1 : Int)), (20, pA g20)] [.c g5 [iD many], .c g6 [yj false], .c g16 [lsD yX R], .c g17 [iD 1], .c g18 [iD ((i : Int))], .r [dk0] dfR, .c g20 [yY x.2.acc, iD x.2.rnd, iD x.2.ser, bD x.2.box, bD x.2.tag]]) ⟨g20, rfl⟩ (sB [0, 1, 2, 3, 4, 5, 6] rfl rfl))
            · rintro i x k hx _ ⟨g20, rfl⟩ y base w0
              obtain ⟨hx1, hx2⟩ := zaX (j := x.1) (e := x.2) hx
              have hlt := (List.getElem?_eq_some_iff.1 hx2).1
              refine jS (Z0 (Z0 (Wf [] (.r 0 (.r 1 (.r 2 (.r 3 (.r 4 (.r 5 (.r 6 (.r 7 (.r 8 (.r 9 (.r 10 (.r 11 (.r 12 (.r 13 (.r 14 (.n 15 (.r 16 (.r 17 .fin)) .no)))))))))))))))) k9 (fun _ _ h => h) k9 k9 (fun d _ _ _ _ h => by cases d <;> exact h) (zl rfl rfl (zI rfl) (zl rfl rfl (zg 4 rfl rfl rfl k9 zh) (zl rfl rfl (ye rfl rfl) (zl rfl rfl (zI rfl) (zG rfl rfl rfl (by simp [hx1]) rfl rfl (zg 4 rfl rfl rfl k9 zh) (zG rfl rfl rfl (by simp [hx1]) rfl rfl (zg 2 rfl rfl rfl k9 zh) (zG rfl rfl rfl (by simp [hx1]) rfl rfl (yx (e := 58) rfl k9) (zG rfl rfl rfl (by simp [hx1]) rfl rfl (ZB rfl rfl) (zl rfl rfl (zv rfl (by simp [hx1]) rfl) (zl rfl rfl (zI rfl) (zG rfl rfl rfl (by simp; omega) rfl rfl (zA 6 5 rfl rfl k9 rfl zh) (zG rfl rfl rfl (by simp; omega) rfl rfl (zg 2 rfl rfl rfl k9 zh) (zG rfl rfl rfl (by simp; omega) rfl rfl (zg 4 rfl rfl rfl k9 zh) (zG rfl rfl rfl (by simp; omega) rfl rfl (yp (e := 58) 5 rfl rfl k9 k9 o9 (by simpa using hx2)) (zG rfl rfl rfl (by simp; omega) rfl rfl (ZK 5 rfl k9 d9 (show 5 ≤ 5 by decide) s9) (jx rfl rfl rfl (by simp; omega) rfl (zD [] (VX x.2 x.2) rfl ⟨(ZQ ⟨(zo (zb _)), (zo (zb _)), (zo (zb _)), (zo (zb _)), (zo (zb _)), trivial⟩), (ZQ ⟨(zo (zb _)), (zo (zb _)), (zo (zb _)), (zo (zb _)), (zo (zb _)), trivial⟩), trivial⟩ rfl) ?_ yf)))))))))))))))))))
              rintro _ rfl
              refine zG rfl rfl rfl (by simp; omega) rfl rfl (yS rfl) (zl rfl rfl (zv rfl (by simp; omega) rfl) (yz (Zr (Wg rfl s9 (We (Zr (Z0 (yJ k9 (fun _ _ h => h) (za rfl (zg 4 rfl rfl rfl k9 zh) (za rfl (yC rfl rfl ⟨by omega, by omega⟩) (YJ (S := [_]) (zR 4 rfl rfl rfl k9 rfl (m9 rfl)) ?_)))))))))))
              rintro _ rfl
              exact zP (Zr (Z0 (yJ k9 (fun _ _ h => h) (za rfl (zg 3 rfl rfl rfl k9 zh) (za rfl (yM rfl rfl) (za rfl (zI rfl) (zh1 rfl rfl d9 rfl rfl (zh1 rfl rfl d9 rfl rfl (zh1 rfl rfl d9 rfl rfl (za rfl (zv rfl d9 rfl) (zP (Zr (Wg rfl (rfl) (We (yc (jW (σ' := zN [] [.c g5 [iD many], .c g6 [yj false], .c g16 [lsD yX R], .c g17 [iD 1], .c g18 [iD (((i + 1 : Nat) : Int))], .r [dk0] dfR]) rfl (⟨⟨_, rfl, trivial⟩, [0, 1, 2, 3, 4, 5], by decide, ⟨la rfl, ⟨la rfl, ⟨la rfl, ⟨la rfl, ⟨⟨_, rfl, ⟨zF s9, trivial⟩⟩, ⟨lR rfl, trivial⟩⟩⟩⟩⟩⟩⟩)))))))))))))))))
            · rintro dk2 bx rfl
              refine yc (zn (zk (zi (za rfl (zg 3 rfl rfl rfl k9 zh) (za rfl (yM rfl rfl) (za rfl (zI rfl) (zh1 rfl rfl d9 rfl rfl (zh1 rfl rfl d9 rfl rfl (zh1 rfl rfl d9 rfl rfl (zh1 rfl rfl d9 rfl rfl (zh1 rfl rfl d9 rfl rfl (zh1 rfl rfl d9 rfl rfl (zh1 rfl rfl d9 rfl rfl (za rfl (zv rfl d9 rfl) (za rfl (zI rfl) (yL rfl rfl (rfl) rfl rfl (zg 3 rfl rfl rfl k9 zh) (yL rfl rfl (rfl) rfl rfl (yM rfl rfl) (yL rfl rfl (rfl) rfl rfl (zI rfl) (yL rfl rfl d9 rfl rfl (zg 4 rfl rfl rfl k9 zh) (yL rfl rfl d9 rfl rfl (zg 2 rfl rfl rfl k9 zh) (yL rfl rfl d9 rfl rfl (yx (e := 58) rfl k9) (yL rfl rfl d9 rfl rfl (ye rfl rfl) (yL rfl rfl (rfl) rfl rfl (zB rfl d9 rfl) (za rfl (zv rfl (rfl) rfl) (zP (zn (zE rfl (by simp [Ww]) (zr (yc (zn (zk (zk (zi (za rfl (zg 3 rfl rfl rfl k9 zh) (zP (zn (zO (σ' := zN [(5, pA g5), (6, pA g6), (16, pA g16), (15, fnD 62 [paD [lsD yX R]]), (141, iD 1)] [.c g5 [iD many], .c g6 [yj false], .c g16 [lsD yX R], .r [dk0] dfR, .r [dk2] dfR]) (sB [0, 1, 2, 5, 6] rfl rfl) (zi (YJ (S := []) (zM (zs := [.int .i64 0]) k9 rfl) ?_)))))))))))))))))))))))))))))))))))))))
              rintro _ ⟨g17, rfl⟩
              refine YJ (S := [_]) (zR 5 rfl rfl rfl k9 rfl (m9 rfl)) ?_
              rintro _ rfl
              refine zP (zn (zi (za rfl (zg 5 rfl rfl rfl k9 zh) (za rfl (yC rfl rfl ⟨by decide, by decide⟩) (YJ (S := [_]) (zR 5 rfl rfl rfl k9 rfl (m9 rfl)) ?_)))))
              rintro _ rfl
              refine zP (Kj (zk (zk (zO (σ' := zN [(5, pA g5), (6, pA g6), (16, pA g16), (15, fnD 62 [paD [lsD yX R]]), (17, pA g17)] [.c g5 [iD many], .c g6 [yj false], .c g16 [lsD yX R], .c g17 [iD 2], .r [dk0] dfR, .r [dk2] dfR]) (sB [0, 1, 2, 5, 3, 4] rfl rfl) (zi (za rfl (zg 3 rfl rfl rfl k9 zh) (za rfl (yF rfl rfl) (zP (zn (zE rfl d9 (yZ ?_)))))))))))
              repeat (first | refine Ze ?_ | refine Zf d9 ?_)
              refine Zn (zn (zk (zO (σ' := zN [(6, pA g6)] [.c g6 [yj false], .r [dk0] dfR, .r [dk2] dfR]) (sB [1, 4, 5] rfl rfl) (zi (YJ (S := []) (zD [] (qA) rfl trivial rfl) ?_)))))
              rintro _ rfl
              refine YJ (S := [_]) (zR 0 rfl rfl rfl k9 rfl (m9 rfl)) ?_
              rintro _ rfl
              exact zP (zn (WO (fn := Tryz.f4) (fun _ _ h => h) (Vv 2 rfl (Vv 1 rfl (RM.fin (Rs.le (Rs.one rfl (zhS 0 rfl rfl k9 rfl)) (zZ (by rfl))))))))
            · rintro _ _ _ _ hX; exact hX.elim
            · rintro _ _ _ hX; exact hX.elim
          · rintro _ _ _ hX; exact hX.elim
