/-
  THE WALK of the law BlakeParts.
-/
import Derived.Test.YtglbgocldenooaaDoorLawCopies
namespace Go.Proofs.YtglbgocldenooaaDoor
open Go.RowKit

/-- A slice of slices of bytes. -/
def RP (w : World) (A : Option Addr) (ps : List (List UInt8)) : Prop :=
  ∀ i p, ps[i]? = some p → ∃ g o Ai ci, A = some ⟨g, o, none⟩ ∧ g < w.heap.size ∧ w.cell? ⟨g, o + i, none⟩ = some (.slice Ai p.length ci) ∧ p.length ≤ ci ∧ RV w Ai (cellsOf p)
/-- L cells of bytes, whatever they are -/
def AnyB (cs : List Value) (L : Nat) : Prop := ∀ j, j < L → ∃ n : Nat, n < 256 ∧ cs[j]? = some (.int .u8 (n : Int))
theorem AnyB.set {cs : List Value} {L : Nat} (h : AnyB cs L) (i n : Nat) (hn : n < 256) : AnyB (cs.set i (.int .u8 (n : Int))) L := fun j hj => by
  obtain ⟨m, hm, hc⟩ := h j hj
  have hl := (List.getElem?_eq_some_iff.1 hc).1
  by_cases hij : i = j
  · subst hij
    exact ⟨n, hn, by simp [hl]⟩
  · exact ⟨m, hm, by rw [List.getElem?_set_ne hij]; exact hc⟩
theorem AnyB.of (bs : List UInt8) (r : List Value) : AnyB (cellsOf bs ++ r) bs.length := fun j hj => ⟨(bs.getD j 0).toNat, UInt8.toNat_lt _, by rw [List.getElem?_append_left (by simpa using hj)]; exact cellsOf_getD hj⟩
theorem RP.get {w : World} {A : Option Addr} {ps : List (List UInt8)} (h : RP w A ps) {i : Nat} {p : List UInt8} (hp : ps[i]? = some p) {w' : World} (ho : Only [w.heap.size] w w') :
    ∃ g o Ai ci, A = some ⟨g, o, none⟩ ∧ g < w.heap.size ∧ w'.cell? ⟨g, o + i, none⟩ = some (.slice Ai p.length ci) ∧ p.length ≤ ci ∧ RV w Ai (cellsOf p) ∧ RV w' Ai (cellsOf p) := by
  obtain ⟨g, o, Ai, ci, h1, h2, h3, h4, h5⟩ := h i p hp
  refine ⟨g, o, Ai, ci, h1, h2, ?_, h4, h5, fun h0 => ?_⟩
  · rw [ho.cell (p := ⟨g, o + i, none⟩) h2 (by simp; omega)]
    exact h3
  · refine h5.keep ho (fun q hq => ?_) h0
    obtain ⟨g', o', e, hg', _⟩ := h5 h0
    rw [e] at hq
    injection hq with hq
    subst hq
    simp
    omega

set_option maxHeartbeats 4000000 in
set_option maxRecDepth 100000 in
theorem blakeParts_in (w : World) (A B : Option Addr) (ca cb : Nat) (key : List UInt8) (ps : List (List UInt8)) (h1 : (key.length : Int) ≤ 32) (h2 : (ps.length : Int) ≤ 10) (hca : key.length ≤ ca) (_hcb : ps.length ≤ cb) (hA : RV w A (cellsOf key)) (hB : RP w B ps) (hgl : Gl w) :
    Calls Tryd.prog 6 #[.slice A key.length ca, .slice B ps.length cb] w fun e w' => e = .returned (.bool true) ∧ Only [] w w' := by
  have hsz := hgl.sz
  have hkb := kblock_le key (by omega)
  go_enter Tryd.func6, Tryd.ntmps6
  go_wp2
  go_loop [5] (fun i => ∃ k : Nat, k ≤ ps.length ∧ i = .int .i64 k ∧ ∀ j p, j < k → ps[j]? = some p → p.length ≤ 200) (fun i => ps.length - (intOf i).toNat)
  case atStart => exact ⟨0, by omega, rfl, fun j p hj => by omega⟩
  case round =>
    obtain ⟨k, hk, rfl, hall⟩ := hrel
    have Hall := Lib.hid hall
    clear hall
    by_cases hlt : k < ps.length
    · have hltI : (k : Int) < (ps.length : Int) := by omega
      obtain ⟨p, hp⟩ : ∃ p, ps[k]? = some p := ⟨_, List.getElem?_eq_getElem hlt⟩
      obtain ⟨g, o, Ai, ci, rfl, hg, hc, hci, hR, _⟩ := hB.get hp (Only.refl _ w)
      have Hp := Lib.hid hp
      clear hp
      by_cases hlen : p.length ≤ 200
      · have hlI : (p.length : Int) ≤ 200 := by omega
        go_wp2
        go_round
        case rel =>
          refine ⟨k + 1, by omega, by go_num, fun j q hj hq => ?_⟩
          by_cases hjk : j = k
          · subst hjk
            rw [Hp.out] at hq
            injection hq with hq
            rw [← hq]
            exact hlen
          · exact Hall.out j q (by omega) hq
        case measure => simp [intOf]; omega
      · have hlI : (200 : Int) < (p.length : Int) := by omega
        go_wp2_with (go_at_call 16; refine (known_any w hgl).mono ?_; rintro e W1 ⟨rfl, hO1⟩)
        go_ret
        exact ⟨rfl, hO1⟩
    · obtain rfl : k = ps.length := by omega
      clear hlt hk
      go_wp2_with (go_at_call 20; refine (new_any w A ca key (by omega) hca hA.rb hgl).mono ?_; rintro e w1 ⟨rfl, hS1, hO1⟩)
      have hl1 := hS1.lt
      obtain ⟨gh, hgh⟩ : ∃ g, g = w.heap.size := ⟨_, rfl⟩
      rw [← hgh]
      rw [← hgh] at hS1 hl1
      have hg2 : 2 ≤ gh := by omega
      have Hgh := Lib.hid hgh
      clear hgh
      go_loopw [8, 9, 10, 11, 12, 13] (fun all i _ _ _ _ wr => ∃ (k : Nat) (Al : Option Addr) (cl : Nat) (G : Option Nat), k ≤ ps.length ∧ i = .int .i64 k ∧ all = .slice Al (ps.take k).flatten.length cl ∧ OwnS wr 5 Al cl (cellsOf (ps.take k).flatten) G ∧ New w1 G ∧ HS wr gh key.length (Bl.kblock key ++ (ps.take k).flatten) (ps.take k).flatten.length ∧ Only [] w wr ∧ w1.heap.size ≤ wr.heap.size ∧ (ps.take k).flatten.length ≤ 200 * k) (fun _ i _ _ _ _ _ => ps.length - (intOf i).toNat)
      case atStart => exact ⟨0, none, 0, none, by omega, rfl, rfl, OwnS.none _ _, New.none _, by simpa using hS1, hO1, Nat.le_refl _, by simp⟩
      case round =>
        obtain ⟨k, Al, cl, G, hk, rfl, rfl, hown, hnew, hS, hPw, hsw, hfl⟩ := hrel
        have hOw : Only [w.heap.size] w wr := hPw.mono (by simp)
        by_cases hlt : k < ps.length
        · have hltI : (k : Int) < (ps.length : Int) := by omega
          obtain ⟨p, hp⟩ : ∃ p, ps[k]? = some p := ⟨_, List.getElem?_eq_getElem hlt⟩
          have hpl := Hall.out k p hlt hp
          have htk : (ps.take (k + 1)).flatten = (ps.take k).flatten ++ p := by
            rw [List.take_succ_eq_append_getElem hlt, List.flatten_append]
            have : ps[k] = p := by rw [List.getElem?_eq_getElem hlt] at hp; injection hp
            simp [this]
          obtain ⟨M, hM⟩ : ∃ M, M = (ps.take k).flatten := ⟨_, rfl⟩
          rw [← hM] at hown hS hfl htk
          rw [← hM]
          obtain ⟨g, o, Ai, ci, rfl, hg, hc, hci, hR0, hR⟩ := hB.get hp hOw
          have Hp := Lib.hid hp
          have Htk := Lib.hid htk
          have HM := Lib.hid hM
          have hgr : g < wr.heap.size := Nat.lt_of_lt_of_le hg hPw.size
          have hgls := hS.lt
          clear hp htk hM
          go_wp2_with (first
            | (at_builtin; refine wpl_append8 rfl (.tmp 53) (.tmp 57) rfl (some ⟨wr.heap.size, 0, none⟩) 0 0 [] (some wr.heap.size) rfl rfl (ownS_empty wr _) Ai p.length ci p rfl rfl (hR.keep0 ((Only.refl [] wr).alloc _)) (by simp; omega) ?_
               intro A2 c2 w2 G2 hown2 hO2 hG2
               have hQ2 : Only [] wr w2 := ((Only.refl [] wr).alloc _).trans hO2 (by simp)
               have hn2 : New wr G2 := by
                 have h0 : New wr (some wr.heap.size) := fun g hg => by injection hg with hg; omega
                 exact h0.next (by simp) hG2
               rw [List.nil_append] at hown2
               have hc2 : p.length ≤ c2 := by simpa using hown2.le
               have hS2 := hS.keep hQ2 (by simp)
               clear hO2 hG2)
            | (go_at_call 21; refine (write_at w2 gh key.length _ _ A2 p.length c2 p rfl hS2 hc2 hown2.reads ?hB (by omega) (by omega) ?h2 (hgl.keep (hPw.trans' hQ2) (by simp) (by simp)) hg2).mono ?_
               case hB =>
                 intro h0 q hq
                 obtain ⟨g', r', e1, e2, e3⟩ := hown2.blk (by simpa using h0)
                 rw [e1] at hq
                 injection hq with hq
                 subst hq
                 have := hn2 g' e2
                 simp
                 omega
               case h2 => rw [List.length_append]; omega
               rintro e w3 ⟨rfl, hS3, hO3⟩))
          have hown3 := hown2.keep hO3 (fun g' hg' => by have := hn2 g' hg'; simp; omega)
          have hl3 := hown3.lt
          have hw3 : w2.heap.size ≤ w3.heap.size := hO3.size
          obtain ⟨wo, rfl⟩ : ∃ wo : World, wo = wr := ⟨_, rfl⟩
          go_loopw [11] (fun i wr => ∃ j : Nat, j ≤ p.length ∧ i = .int .i64 j ∧ Only G2.toList w3 wr ∧ (0 < p.length → ∃ go cs, A2 = some ⟨go, 0, none⟩ ∧ G2 = some go ∧ Blk wr go 5 cs ∧ AnyB cs p.length)) (fun i _ => p.length - (intOf i).toNat)
          case atStart =>
            refine ⟨0, by omega, rfl, Only.refl _ _, fun h0 => ?_⟩
            obtain ⟨g', r', e1, e2, e3⟩ := hown3.blk (by simpa using h0)
            exact ⟨g', _, e1, e2, e3, AnyB.of p r'⟩
          case round =>
            obtain ⟨j, hj, rfl, hOj, hblk⟩ := hrel
            by_cases hlj : j < p.length
            · have hljI : (j : Int) < (p.length : Int) := by omega
              obtain ⟨go, cs, rfl, rfl, hBo, hany⟩ := hblk (by omega)
              obtain ⟨n, hn, hcj⟩ := hany j hlj
              have cj := hBo.cellv hcj
              have fj := hBo.frozen j
              clear hblk hcj
              go_wp2
              go_roundw
              case rel =>
                refine ⟨j + 1, by omega, by go_num, hOj.setCell (p := ⟨go, j, none⟩) (.inl (by simp)) _, fun _ => ⟨go, _, rfl, rfl, hBo.set j _, ?_⟩⟩
                have := hany.set j ((n + 1) % 256) (by omega)
                simpa using this
              case measure => simp [intOf]; omega
            · obtain rfl : j = p.length := by omega
              clear hblk hlj hj
              obtain ⟨wj, rfl⟩ : ∃ wj : World, wj = wr := ⟨_, rfl⟩
              have hows := hPw.size
              have hgho : gh < wo.heap.size := hgls
              have hOwj : Only [w.heap.size] w wj := ((hOw.trans hQ2 (by simp)).trans hO3 (by rw [Hgh.out]; simp)).trans hOj (hn2.le hows).out
              have hPj : Only [] w wj := hOwj.mono (by simp)
              have hszj : w1.heap.size ≤ wj.heap.size := by have := hQ2.size; have := hOj.size; omega
              obtain ⟨g', o', Ai', ci', e1, -, hc', hci', -, hR'⟩ := hB.get Hp.out hOwj
              injection e1 with e1
              injection e1 with e1 e2
              subst e1 e2
              have hownj := ((hown.keep hQ2 (by simp)).keep hO3 (fun x hx => by have := hnew x hx; simp; omega)).keep hOj (fun x hx => hn2.far (hown.lt x hx))
              have hSj := hS3.keep hOj (hn2.far hgho)
              clear hc hR hown hS2 hown2 hown3 hQ2 hO3 hOj hS3 hOwj
              have hghG : gh ∉ G.toList := hnew.far hl1
              have hfl2 : (M ++ p).length ≤ 200 * (k + 1) := by simp; omega
              have hML : M.length + p.length = (M ++ p).length := by simp
              have HML := Lib.hid hML
              have hkb2 : (Bl.kblock key ++ M ++ p).length ≤ 4611686018427387904 := by simp; omega
              have hdz : (Tryd.prog.info? 24).map (·.size) = some 32 := arr32size
              clear hML hdz
              go_upto_region 24 with (first
                | (at_builtin; refine wpl_append8 rfl (.tmp 75) (.tmp 79) rfl Al M.length cl M G rfl rfl hownj Ai' p.length ci' p rfl rfl hR' (by omega) ?_
                   intro A5 c5 w5 G5 hown5 hO5 hG5
                   have hn5 : New w1 G5 := hnew.next hszj hG5
                   have hP5 : Only [] w w5 := hPj.trans hO5 (hnew.le hO1.size).out
                   have hS5 := hSj.keep hO5 hghG
                   clear hG5 hownj hSj)
                | (go_at_call 22; refine (sumM_any w5 gh key.length _ _ hS5 (by omega) hkb2 (hgl.keep hP5 (by simp) (by simp))).mono ?_
                   rintro e w6 ⟨rfl, hO6⟩
                   have hP6 := hP5.trans' hO6
                   have hS6 := hS5.keep hO6 (by simp)
                   have hown6 := hown5.keep hO6 (by simp)
                   clear hS5 hown5)
                | (refine wpl_put32 rfl (.tmp 12) (.tmp 84) rfl w6.heap.size (Bl.hash key (M ++ p)) rfl (by rw [← hash_eq, ← List.append_assoc]; rfl) (List.replicate 32 (Value.int .u8 0)) ?hb rfl (by simp) ?_
                   case hb => exact Blk.new' w6 rfl
                   intro w7 hX7 hO7
                   have hP7 := (hP6.alloc _).trans hO7 (by have := hP6.size; simp; omega)
                   have hS7 := (hS6.keep ((Only.refl [] w6).alloc _) (by simp)).keep hO7 (by have := hS6.lt; simp; omega)
                   have hown7 := (hown6.keep ((Only.refl [] w6).alloc _) (by simp)).keep hO7 (fun x hx => by have := hown6.lt x hx; simp; omega)))
              have s1 := fun c => str_in0 (w := w7.drew) (n := 32) (c := c) hX7.rv.drew (by simp)
              have hsz7 : w1.heap.size ≤ w7.heap.size := by have := hO5.size; have := hO6.size; have := hO7.size; simp at this; omega
              clear hO5 hO6 hO7 hP6 hP5 hown6 hS6 hPj
              refine Reg.wp [] [.r 0, .r 1, .r 2, .r 3, .r 5, .r 6, .e 4, .r 7, .r 8, .r 9, .r 10, .r 11, .r 12, .r 13, .e 14, .r 15, .r 16, .r 17] (by kernel_rfl) (by kernel_rfl) (fun d _ _ _ _ h => by cases d <;> exact h) ?_
              simp only [Reg.pick, List.getD_cons_succ, List.getD_cons_zero]
              iterate 6 (apply Reg.read; (· (intro t K hK; go_simp; (try go_ints); (try ((go_ite <;> go_prune); go_simp)); (try go_ints); exact hK _ rfl)); (· (intro K hK; go_simp; exact hK _ rfl)))
              refine Reg.eff ?_
              go_wp2_with (go_at_call 23; refine (len_any w7.drew gh key.length _ _ hS7 (by omega)).mono ?_; rintro e w' ⟨rfl, rfl⟩)
              refine ⟨Only.refl _ _, ?_⟩
              iterate 7 (apply Reg.read; (· (intro t K hK; go_simp; (try go_ints); (try ((go_ite <;> go_prune); go_simp)); (try go_ints); exact hK _ rfl)); (· (intro K hK; go_simp; exact hK _ rfl)))
              clear s1
              refine Reg.eff ?_
              go_wp2_with (go_at_call 18; rw [← List.length_append]; refine (hash_ref w7.drew A A5 ca c5 key (M ++ p) (by omega) (hA.keep0 hP7).drew hown7.drew.reads hca (by simpa using hown7.le) (by omega)).mono ?_; rintro e w8 ⟨A8, c8, G8, rfl, hown8, hnew8, hO8⟩)
              refine ⟨hO8, ?_⟩
              have s2 := fun c => str_in0 (w := w8) (n := 32) (c := c) hown8.reads (by simp)
              iterate 3 (apply Reg.read; (· (intro t K hK; go_simp; (try go_ints); (try ((go_ite <;> go_prune); go_simp)); (try go_ints); exact hK _ rfl)); (· (intro K hK; go_simp; exact hK _ rfl)))
              refine Reg.fin ?_
              clear s2
              have hO8' : Only [] w7 w8 := Only.undrew (w := w7) hO8
              have hS8 := hS7.keep hO8' (by simp)
              have hownA := hown7.keep hO8' (by simp)
              have hP8 := hP7.trans' hO8'
              have hsz8 : w1.heap.size ≤ w8.heap.size := Nat.le_trans hsz7 hO8'.size
              clear hO8 hO8' hown7 hS7 hX7 hown8 hP7
              go_wp2
              refine ⟨⟨k + 1, A5, c5, G5, by omega, by go_num, ?_, ?_, hn5, ?_, hP8, hsz8, ?_⟩, by simp [intOf]; omega⟩
              · rw [Htk.out]; simp
              · rw [Htk.out]; exact hownA
              · rw [Htk.out, ← List.append_assoc, List.length_append]; exact hS8
              · rw [Htk.out]; exact hfl2
        · obtain rfl : k = ps.length := by omega
          go_wp2_with (go_at_call 16; refine (known_any wr (hgl.keep hPw (by simp) (by simp))).mono ?_; rintro e W1 ⟨rfl, hO2⟩)
          go_ret
          exact ⟨rfl, hPw.trans' hO2⟩
end Go.Proofs.YtglbgocldenooaaDoor
