/- THE WALKS of the reference's Trim, Make, Same: natural numbers as bytes, the lowest first. THE WALK of the reference's Make. THE WALK of the reference -/
import Derived.Test.YtmflnfnebmbjkaaGreatGZAR
set_option maxHeartbeats 8000000
set_option maxRecDepth 100000
namespace Go.Proofs.YtmflnfnebmbjkaaGreat
open Go.RowKit
open Nm (W32)
structure LitS (w : World) (A : Option Addr) (n c X : Nat) : Prop where
  n_eq : n = Nm.len 256 X
  le : n ≤ c
  rd : RV w A (cN .u8 (Nm.dg 256 X))
theorem LitS.keep {w w' : World} {A : Option Addr} {n c X : Nat} (h : LitS w A n c X) (ho : Only [] w w') : LitS w' A n c X := ⟨h.n_eq, h.le, h.rd.keep0 ho⟩
theorem LitS.zero (w : World) (A : Option Addr) (c : Nat) : LitS w A 0 c 0 := ⟨by rw [Nm.len_zero], Nat.zero_le _, by rw [Nm.dg_zero]; exact RV.nil⟩
theorem LitS.at {w : World} {A : Option Addr} {n c X : Nat} (h : LitS w A n c X) (h0 : 0 < n) : ∃ g o, A = some ⟨g, o, none⟩ ∧ g < w.heap.size ∧ ∀ j, j < n → w.cell? ⟨g, o + j, none⟩ = some (.int .u8 ((X / 256 ^ j % 256 : Nat) : Int)) := by
  have hl : (cN .u8 (Nm.dg 256 X)).length = n := by rw [ye, Nm.dg_length, h.n_eq]
  obtain ⟨g, o, e, hg, hc⟩ := h.rd o9
  refine ⟨g, o, e, hg, fun j hj => ?_⟩
  rw [hc j o9, yW (by rw [ye] at hl; omega), Nm.dg_getD d9]
theorem zaw {w : World} {A : Option Addr} {n c X : Nat} (hc : n ≤ c) (hX : X < 256 ^ n) (hr : RV w A (cN .u8 (Nm.pad 256 n X))) : LitS w A (Nm.len 256 X) c X := by
  have hle := (Nm.len_le (B := 256) d9 n X).2 hX
  refine ⟨rfl, Nat.le_trans hle hc, ?_⟩
  rw [Nm.dg_pad d9, ← Nm.take_pad 256 _ _ _ hle, cN, List.map_take]
  exact hr.take _
theorem LitS.lt {w : World} {A : Option Addr} {n c X : Nat} (h : LitS w A n c X) : X < 256 ^ n := by rw [h.n_eq]; exact Nm.lt_pow_len d9 X
theorem qQ (w : World) (A : Option Addr) (n c X : Nat) (hc : n ≤ c) (hm : n ≤ 1000000) (hX : X < 256 ^ n) (hr : RV w A (cN .u8 (Nm.pad 256 n X))) :
    Calls Tryz.prog 140 #[.slice A n c] w fun e w' => ∃ m, e = .returned (.slice A m c) ∧ w = w' ∧ LitS w A m c X := by
  have Hr := Lib.hid hr
  have HX := Lib.hid hX
  have hns := zaw hc hX hr
  clear hr hX
  go_enter Tryz.func140, Tryz.ntmps140
  go_wp2
  go_loopw [0] (fun x wr => ∃ k : Nat, k ≤ n ∧ x = .slice A k c ∧ Hid (X < 256 ^ k) ∧ w = wr) (fun x _ => lenV x)
  case atStart => exact ⟨n, Nat.le_refl _, rfl, HX.out, rfl⟩
  case round =>
    obtain ⟨k, hk, rfl, hXk, rfl⟩ := hrel
    rcases (show k = 0 ∨ ∃ j, k = j + 1 from by cases k; exact .inl rfl; exact .inr ⟨_, rfl⟩) with rfl | ⟨j, rfl⟩
    · go_wp2
      go_ret
      have : X = 0 := by simpa using hXk.out
      subst this
      exact ⟨0, rfl, rfl, LitS.zero _ _ _⟩
    · obtain ⟨g, o, rfl, hg, hcl⟩ := padAt Hr.out o9
      have c1 := hcl j o9
      clear hcl
      obtain ⟨x, Hx⟩ : ∃ x : Nat, Hid (x = X / 256 ^ j % 256) := ⟨_, rfl⟩
      rw [← Hx.out] at c1
      have hcj : (j : Int) ≤ (c : Int) := by omega
      have hjm : (j : Int) ≤ 1000000 := by omega
      by_cases h0 : x = 0
      · subst h0
        go_wp2
        go_roundw
        case rel => exact ⟨j, by omega, rfl, Nm.top_zero d9 hXk.out Hx.out.symm, trivial⟩
        case measure => simp [lenV]
      · have e1 : ((x : Int) == 0) = false := beq_eq_false_iff_ne.2 o9
        have hl := Nm.top_len d9 hXk.out (by rw [← Hx.out]; exact h0)
        rw [hl] at hns
        go_wp2
        go_ret
        exact ⟨j + 1, rfl, rfl, hns⟩
theorem VI (X : Nat) : cN .u8 (Nm.dg 256 X).reverse = cellsOf (((Nm.dg 256 X).reverse).map UInt8.ofNat) := cN_bytes _ fun d hd => Nm.dg_lt d9 d (by simpa using hd)
theorem dg_inj {X Y : Nat} (h : ((Nm.dg 256 X).reverse).map UInt8.ofNat = ((Nm.dg 256 Y).reverse).map UInt8.ofNat) : X = Y := by
  have h1 := congrArg cellsOf h
  rw [← VI, ← VI] at h1
  have h2 : Nm.dg 256 X = Nm.dg 256 Y := by
    have h3 : (Nm.dg 256 X).reverse = (Nm.dg 256 Y).reverse := by
      unfold cN at h1
      exact (List.map_inj_right (fun a b hab => by injection hab with _ hab; omega)).1 h1
    exact List.reverse_inj.1 h3
  have hl : Nm.len 256 X = Nm.len 256 Y := by unfold Nm.len; rw [h2]
  have hX := Nm.lt_pow_len (B := 256) d9 X
  have hY := Nm.lt_pow_len (B := 256) d9 Y
  rw [hl] at hX
  have key : ∀ k, X % 256 ^ k = Y % 256 ^ k := by
    intro k
    induction k with
    | zero => simp [Nat.mod_one]
    | succ k ih =>
      have e := congrArg (fun l => l.getD k 0) h2
      simp only [Nm.dg_getD (B := 256) d9] at e
      rw [Nm.mod_next, Nm.mod_next, ih, e]
  have := key (Nm.len 256 Y)
  rwa [Nat.mod_eq_of_lt hX, Nat.mod_eq_of_lt hY] at this
theorem same_any (w : World) (s t : Bool) (A B : Option Addr) (n c m d : Nat) (x y : Int) (hA : IntS w s A n c x) (hB : IntS w t B m d y) :
    Calls Tryz.prog 55 #[.agg #[.bool s, .slice A n c], .agg #[.bool t, .slice B m d]] w fun e w' => e = .returned (.bool (decide (x = y))) ∧ Only [] w w' := by
  obtain ⟨hBa, hBb, hO0, hsz⟩ := jc w (.bool s) (.slice A n c) (.bool t) (.slice B m d)
  obtain ⟨K0, K1, -, -⟩ := hBa.two
  obtain ⟨L0, L1, -, -⟩ := hBb.two
  have hs := hA.sg
  have ht := hB.sg
  by_cases hst : s = t
  · subst hst
    have hbs : (s == s) = true := by simp
    have ra := (hA.keep hO0).by_.rd
    have rb := (hB.keep hO0).by_.rd
    rw [VI] at ra rb
    have hla : n = (((Nm.dg 256 x.natAbs).reverse).map UInt8.ofNat).length := by simp [Nm.dg_length, hA.by_.n_eq]
    have hlb : m = (((Nm.dg 256 y.natAbs).reverse).map UInt8.ofNat).length := by simp [Nm.dg_length, hB.by_.n_eq]
    have hxy : ((((Nm.dg 256 x.natAbs).reverse).map UInt8.ofNat) == (((Nm.dg 256 y.natAbs).reverse).map UInt8.ofNat)) = decide (x = y) := by
      by_cases h : x = y
      · subst h; simp
      · rw [decide_eq_false h, beq_eq_false_iff_ne]
        intro h'
        have := dg_inj h'
        rw [hs] at ht
        have h2 : (x < 0) ↔ (y < 0) := by simpa using ht
        omega
    generalize ((Nm.dg 256 x.natAbs).reverse).map UInt8.ofNat = p at ra hla hxy
    generalize ((Nm.dg 256 y.natAbs).reverse).map UInt8.ofNat = q at rb hlb hxy
    generalize decide (x = y) = r at hxy ⊢
    have Hla := Lib.hid hla
    have Hlb := Lib.hid hlb
    clear hs ht hla hlb hA hB
    go_enter Tryz.func55, Tryz.ntmps55
    go_wp2_with (first
      | (refine KP (by rfl) ?_; refine wpl_str rfl 39 9 5 (.tmp 12) rfl Tryz.underlying39 Tryz.underlying5 Tryz.underlying9 A n c p rfl Hla.out ra ?_)
      | (refine KP (by rfl) ?_; refine wpl_str rfl 39 9 5 (.tmp 15) rfl Tryz.underlying39 Tryz.underlying5 Tryz.underlying9 B m d q rfl Hlb.out rb ?_))
    go_ret
    exact ⟨by rw [← hxy]; rfl, hO0⟩
  · have hbs : (s == t) = false := beq_eq_false_iff_ne.2 hst
    have hne : decide (x = y) = false := decide_eq_false fun h => hst (by rw [hs, ht, h])
    have Hne := Lib.hid hne
    clear hs ht hne
    go_enter Tryz.func55, Tryz.ntmps55
    go_wp2
    go_ret
    exact ⟨by rw [Hne.out]; rfl, hO0⟩
theorem Wt {l : LN} {k : Nat} (h : k < l.length) : (l.drop k).reverse = (l.drop (k + 1)).reverse ++ [l.getD k 0] := by
  rw [List.drop_eq_getElem_cons h, List.reverse_cons, List.getD_eq_getElem?_getD, List.getElem?_eq_getElem h]
  rfl
theorem Kl {w0 w : World} {e : TypeId} {A : Option Addr} {c : Nat} {xs : List Value} {G : Option Nat} (h : OwnS w e A c xs G) (hn : New w0 G) : Frs w0 A := by
  rcases h with ⟨rfl, _⟩ | ⟨g, r, rfl, rfl, _⟩
  · exact Frs.none _
  · intro p hp
    injection hp with hp
    subst hp
    exact hn g rfl
theorem qW (w : World) (neg : Bool) (A : Option Addr) (n c X : Nat) (hc : n ≤ c) (hm : n ≤ 1000000) (hX : X < 256 ^ n) (hr : RV w A (cN .u8 (Nm.pad 256 n X))) :
    Calls Tryz.prog 115 #[.bool neg, .slice A n c] w (RV1 w (sgn neg X)) := by
  have hO0 : Only [] w (w.alloc (.cells #[.bool false, .slice none 0 0] 41)) := (Only.refl [] w).alloc _
  have HX := Lib.hid hX
  have Hsg := Lib.hid (WX neg X)
  have Habs := Lib.hid (yk neg X)
  have hAlt : ∀ p, A = some p → 0 < n → p.block < w.heap.size := by
    intro p hp h0
    obtain ⟨g, o, e, hg, -⟩ := hr (by simpa using h0)
    rw [hp] at e
    injection e with e
    rw [e]
    exact hg
  clear hX
  go_enter Tryz.func115, Tryz.ntmps115
  go_wp2_with fail
  refine (qQ _ A n c X hc hm HX.out (hr.keep0 hO0)).mono ?_
  rintro e w' ⟨m, rfl, rfl, hL⟩
  have hmn : m ≤ n := by rw [hL.n_eq]; exact (Nm.len_le d9 _ _).2 HX.out
  have hm0 : (0 < X) ↔ 0 < m := by
    rw [hL.n_eq]
    have := Nm.len_eq_zero (B := 256) (x := X) d9
    omega
  obtain ⟨nb, Hnb⟩ : ∃ nb, Hid (nb = (neg && decide (0 < m))) := ⟨_, rfl⟩
  have Hnb2 : Hid (nb = decide (sgn neg X < 0)) := by unfold Hid; rw [Hnb.out, Hsg.out]; simp only [hm0]
  have hmm : (m : Int) ≤ 1000000 := by omega
  have Hl : Hid ((Nm.dg 256 X).length = m) := by unfold Hid; rw [Nm.dg_length, hL.n_eq]
  obtain ⟨W2, hW2⟩ : ∃ W2, W2 = (w.alloc (.cells #[.bool false, .slice none 0 0] 41)).alloc (.cells #[.bool nb, .slice none 0 0] 41) := ⟨_, rfl⟩
  have hB5 : Blk W2 (w.heap.size + 1) 41 [.bool nb, .slice none 0 0] := by
    rw [hW2]
    have h := Blk.new (w.alloc (.cells #[.bool false, .slice none 0 0] 41)) 41 [.bool nb, .slice none 0 0]
    have e : (w.alloc (.cells #[.bool false, .slice none 0 0] 41)).heap.size = w.heap.size + 1 := by simp
    rw [e] at h
    exact h
  have hB4 : Blk W2 w.heap.size 41 [.bool false, .slice none 0 0] := by rw [hW2]; exact (ZT w).alloc _
  have hO2 : Only [] w W2 := by rw [hW2]; exact hO0.alloc _
  have hsz2 : W2.heap.size = w.heap.size + 2 := by rw [hW2]; simp
  have hL2 : LitS W2 A m c X := by rw [hW2]; exact hL.keep ((Only.refl [] _).alloc _)
  have HW2 := Lib.hid hW2
  clear hW2 hL hr hm0
  cases neg
  · obtain rfl : nb = false := by rw [Hnb.out]; rfl
    go_wp2
    go_loopw [6] (fun i wr => ∃ (k : Nat) (z : Int) (Ad : Option Addr) (md cd : Nat) (G : Option Nat), z = (k : Int) - 1 ∧ i = .int .i64 z ∧ k ≤ m ∧ md + k = m ∧ Blk wr (w.heap.size + 1) 41 [.bool false, .slice Ad md cd] ∧ OwnS wr 5 Ad cd (cN .u8 ((Nm.dg 256 X).drop k).reverse) G ∧ New W2 G ∧ Only [w.heap.size + 1] W2 wr) (fun i _ => (intOf i + 1).toNat)
    case atStart => exact ⟨m, _, none, 0, 0, none, rfl, by go_num, Nat.le_refl _, by omega, by rw [← HW2.out]; exact hB5, by rw [List.drop_of_length_le (by rw [Hl.out]; exact Nat.le_refl _)]; exact OwnS.none _ _, New.none _, by rw [← HW2.out]; exact Only.refl _ _⟩
    case round =>
      obtain ⟨k, z, Ad, md, cd, G, hz, rfl, hk, hmd, hBk, hown, hnew, hOk⟩ := hrel
      rcases (show k = 0 ∨ ∃ j, k = j + 1 from by cases k; exact .inl rfl; exact .inr ⟨_, rfl⟩) with rfl | ⟨j, rfl⟩
      · obtain rfl : z = -1 := by omega
        obtain rfl : md = m := by omega
        clear hz
        rw [List.drop_zero] at hown
        have hB4k := hB4.keep hOk s9
        have hsk := hOk.size
        obtain ⟨k0, k1, -, -⟩ := hBk.two
        obtain ⟨p0, p1, f0, f1⟩ := hB4k.two
        have hF := Kl hown hnew
        have hle : md ≤ cd := by have := hown.le; rw [ye, List.length_reverse, Hl.out] at this; exact this
        have hI : IntS wr false Ad md cd (sgn _ X) := ⟨Hnb2.out, by rw [Habs.out]; exact ⟨by rw [← Nm.dg_length, Hl.out], hle, hown.reads⟩⟩
        have hOw : Only [] w wr := hO2.trans hOk (by intro x hx hlt; simp at hx; omega)
        go_wp2
        exact bodyPost_ret (results_cell_row rfl _ _ w.heap.size 41 #[.bool false, .slice Ad md cd] (0, 0) _ rfl (hB4k.put2 _ _) Tryz.underlying41 rfl isz) rfl (RV1.of rfl hI hF o9 (Nat.le_refl _) hOw (yd _ _ _ _))
      · obtain rfl : z = (j : Int) := by omega
        clear hz
        have hjm : (j : Int) < (m : Int) := by omega
        have hAn : ∀ p, A = some p → p.block < w.heap.size := fun p hp => hAlt p hp o9
        have hLk : LitS wr A m c X := ⟨hL2.n_eq, hL2.le, hL2.rd.keep hOk fun p hp hx => by have := hAn p hp; simp at hx; omega⟩
        obtain ⟨ga, oa, rfl, hga, hca⟩ := hLk.at o9
        have c1 := hca j o9
        have hga0 : ga < w.heap.size := hAn _ rfl
        have hdn := Wt (l := Nm.dg 256 X) (k := j) (by rw [Hl.out]; omega)
        rw [Nm.dg_getD d9] at hdn
        generalize X / 256 ^ j % 256 = v at c1 hdn
        have Hdn := Lib.hid hdn
        obtain ⟨k0, k1, -, -⟩ := hBk.two
        have hgl : w.heap.size + 1 < wr.heap.size := hBk.lt
        have hGn : w.heap.size + 1 ∉ G.toList := hnew.far o9
        have hGa : ga ∉ G.toList := hnew.far o9
        have hne1 : ga ≠ w.heap.size + 1 := by omega
        have hll : ((Nm.dg 256 X).drop (j + 1)).reverse.length = md := by rw [List.length_reverse, List.length_drop, Hl.out]; omega
        have Hll := Lib.hid hll
        have hmdm : md ≤ 1000000 := by omega
        obtain ⟨SL, hSL⟩ : ∃ SL, SL = (w.heap.size + 1) :: G.toList := ⟨_, rfl⟩
        have hS1 : ga ∉ SL := by rw [hSL, List.mem_cons]; rintro (h | h); exact hne1 h; exact hGa h
        have HS1 : Hid (∀ x ∈ G.toList, x ∈ SL) := by unfold Hid; rw [hSL]; exact fun x hx => List.mem_cons_of_mem _ hx
        have HS2 : Hid (w.heap.size + 1 ∈ SL) := by unfold Hid; rw [hSL]; exact mC
        clear hca hLk hdn hll hSL hGa
        go_wp2
        refine Reg.wpYL SL [.r 0, .q 1, .r 2, .r 3, .r 4, .r 5, .n 6, .e 7, .r 8, .e 9] k9 k9 (fun d _ _ _ _ h => by cases d <;> exact h) ?_
        simp only [Reg.pickY, List.getD_cons_succ, List.getD_cons_zero]
        (apply Reg.readYr; (· (intro t K hK; go_simp; (try go_ints); (try ((go_ite <;> go_prune); go_simp)); (try go_ints); exact hK _ rfl)); (· (intro K hK; go_simp; exact hK _ rfl)))
        (apply Reg.readYq; (· (intro t K hK; go_simp; (try go_ints); (try ((go_ite <;> go_prune); go_simp)); (try go_ints); exact hK _ rfl)); (· (intro K hK; go_simp; exact hK _ rfl)))
        iterate 4 (apply Reg.readYr; (· (intro t K hK; go_simp; (try go_ints); (try ((go_ite <;> go_prune); go_simp)); (try go_ints); exact hK _ rfl)); (· (intro K hK; go_simp; exact hK _ rfl)))
        clear k0 k1 c1
        refine Reg.effYn ?_
        go_wp2
        have hO6 := (Only.refl [] wr.drew).alloc (.cells #[.int .u8 (v : Int)] 5)
        refine ⟨hO6, ?_⟩
        refine Reg.effYe ?_
        refine ZP rfl (.tmp 24) (.tmp 29) 39 5 rfl (.int .u8 0) 1 Tryz.underlying39 qv rfl Ad md cd (cN .u8 ((Nm.dg 256 X).drop (j + 1)).reverse) G rfl (by rw [ye]; exact Hll.out.symm) (hown.drew.keep hO6 s9) (some ⟨wr.heap.size, 0, none⟩) 1 1 (cN .u8 [v]) rfl rfl (RV.new (w := wr.drew) rfl) Yw (by rw [ye, ye, Hll.out]; simp; omega) d9 ?_
        intro A2 c2 w2 G2 hown2 hG2
        have hx := Zu hG2
        have hQ : Only [] wr (wr.drew.alloc (.cells #[.int .u8 (v : Int)] 5)) := Only.undrew hO6
        have hn2 : New W2 G2 := by
          rcases hG2 with ⟨e, _⟩ | ⟨e, _⟩
          · rw [e]; exact hnew
          · rw [e]; intro g hg; injection hg with hg; have := hOk.size; simp at hg; omega
        have hBk2 := (hBk.keep hQ s9).keep hx hGn
        rw [← y1, ← Hdn.out] at hown2
        have hOk2 : Only [w.heap.size + 1] W2 w2 := (hOk.trans hQ s9).trans hx (hnew.out)
        have hG2n : ∀ g, G2 = some g → g ∉ [w.heap.size + 1] := by
          intro g hg hm
          have := hn2 g hg
          simp at hm
          omega
        refine Reg.done (hx.mono fun x hx _ => HS1.out x hx) ?_
        obtain ⟨k0, k1, f0, f1⟩ := hBk2.two
        clear hG2 hx hown hnew hBk hOk hQ hO6
        (apply Reg.readYr; (· (intro t K hK; go_simp; (try go_ints); (try ((go_ite <;> go_prune); go_simp)); (try go_ints); exact hK _ rfl)); (· (intro K hK; go_simp; exact hK _ rfl)))
        refine Reg.effYe ?_
        go_wp2
        refine ⟨(Only.refl SL w2).setCell (p := ⟨w.heap.size + 1, 1, none⟩) (.inl HS2.out) _, ?_⟩
        refine Reg.finY ?_
        go_wp2
        go_roundw
        case rel => exact ⟨j, _, A2, md + 1, c2, G2, rfl, by go_num, by omega, by omega, hBk2.set 1 _, hown2.keep ((Only.refl [w.heap.size + 1] w2).setCell (p := ⟨w.heap.size + 1, 1, none⟩) (.inl s9) _) hG2n, hn2, hOk2.setCell (p := ⟨w.heap.size + 1, 1, none⟩) (.inl s9) _⟩
        case measure => simp [intOf]
  · by_cases hmz : m = 0
    · obtain rfl : nb = false := by rw [Hnb.out, hmz]; rfl
      subst hmz
      have hX0 : X = 0 := (Nm.len_eq_zero (B := 256) d9).1 (by rw [← Nm.dg_length, Hl.out])
      subst hX0
      rw [HW2.out] at hB4 hB5 hO2
      obtain ⟨k0, k1, -, -⟩ := hB5.two
      obtain ⟨p0, p1, f0, f1⟩ := hB4.two
      clear hL2 hB5 HW2 hsz2
      go_wp2
      go_loopw [6] (fun i wr => i = .int .i64 (-1) ∧ (w.alloc (.cells #[.bool false, .slice none 0 0] 41)).alloc (.cells #[.bool false, .slice none 0 0] 41) = wr) (fun i _ => (intOf i + 1).toNat)
      case atStart => exact ⟨rfl, rfl⟩
      case round =>
        obtain ⟨rfl, rfl⟩ := hrel
        go_wp2
        exact bodyPost_ret (results_cell_row rfl _ _ w.heap.size 41 #[.bool false, .slice none 0 0] (0, 0) _ rfl hB4 Tryz.underlying41 rfl isz) rfl (RV1.of rfl (IntS.zero _ _ _) (Frs.none (w.alloc (.cells #[.bool false, .slice none 0 0] 41))) s9 (Nat.le_refl _) hO2 (Only.refl _ _))
    · obtain rfl : nb = true := by rw [Hnb.out]; simp; omega
      have hmzI : (0 : Int) < (m : Int) := by omega
      have hmzN : 0 < m := by omega
      clear hmz
      go_wp2
      go_loopw [6] (fun i wr => ∃ (k : Nat) (z : Int) (Ad : Option Addr) (md cd : Nat) (G : Option Nat), z = (k : Int) - 1 ∧ i = .int .i64 z ∧ k ≤ m ∧ md + k = m ∧ Blk wr (w.heap.size + 1) 41 [.bool true, .slice Ad md cd] ∧ OwnS wr 5 Ad cd (cN .u8 ((Nm.dg 256 X).drop k).reverse) G ∧ New W2 G ∧ Only [w.heap.size + 1] W2 wr) (fun i _ => (intOf i + 1).toNat)
      case atStart => exact ⟨m, _, none, 0, 0, none, rfl, by go_num, Nat.le_refl _, by omega, by rw [← HW2.out]; exact hB5, by rw [List.drop_of_length_le (by rw [Hl.out]; exact Nat.le_refl _)]; exact OwnS.none _ _, New.none _, by rw [← HW2.out]; exact Only.refl _ _⟩
      case round =>
        obtain ⟨k, z, Ad, md, cd, G, hz, rfl, hk, hmd, hBk, hown, hnew, hOk⟩ := hrel
        rcases (show k = 0 ∨ ∃ j, k = j + 1 from by cases k; exact .inl rfl; exact .inr ⟨_, rfl⟩) with rfl | ⟨j, rfl⟩
        · obtain rfl : z = -1 := by omega
          obtain rfl : md = m := by omega
          clear hz
          rw [List.drop_zero] at hown
          have hB4k := hB4.keep hOk s9
          have hsk := hOk.size
          obtain ⟨k0, k1, -, -⟩ := hBk.two
          obtain ⟨p0, p1, f0, f1⟩ := hB4k.two
          have hF := Kl hown hnew
          have hle : md ≤ cd := by have := hown.le; rw [ye, List.length_reverse, Hl.out] at this; exact this
          have hI : IntS wr true Ad md cd (sgn _ X) := ⟨Hnb2.out, by rw [Habs.out]; exact ⟨by rw [← Nm.dg_length, Hl.out], hle, hown.reads⟩⟩
          have hOw : Only [] w wr := hO2.trans hOk (by intro x hx hlt; simp at hx; omega)
          go_wp2
          exact bodyPost_ret (results_cell_row rfl _ _ w.heap.size 41 #[.bool true, .slice Ad md cd] (0, 0) _ rfl (hB4k.put2 _ _) Tryz.underlying41 rfl isz) rfl (RV1.of rfl hI hF o9 (Nat.le_refl _) hOw (yd _ _ _ _))
        · obtain rfl : z = (j : Int) := by omega
          clear hz
          have hjm : (j : Int) < (m : Int) := by omega
          have hAn : ∀ p, A = some p → p.block < w.heap.size := fun p hp => hAlt p hp o9
          have hLk : LitS wr A m c X := ⟨hL2.n_eq, hL2.le, hL2.rd.keep hOk fun p hp hx => by have := hAn p hp; simp at hx; omega⟩
          obtain ⟨ga, oa, rfl, hga, hca⟩ := hLk.at o9
          have c1 := hca j o9
          have hga0 : ga < w.heap.size := hAn _ rfl
          have hdn := Wt (l := Nm.dg 256 X) (k := j) (by rw [Hl.out]; omega)
          rw [Nm.dg_getD d9] at hdn
          generalize X / 256 ^ j % 256 = v at c1 hdn
          have Hdn := Lib.hid hdn
          obtain ⟨k0, k1, -, -⟩ := hBk.two
          have hgl : w.heap.size + 1 < wr.heap.size := hBk.lt
          have hGn : w.heap.size + 1 ∉ G.toList := hnew.far o9
          have hGa : ga ∉ G.toList := hnew.far o9
          have hne1 : ga ≠ w.heap.size + 1 := by omega
          have hll : ((Nm.dg 256 X).drop (j + 1)).reverse.length = md := by rw [List.length_reverse, List.length_drop, Hl.out]; omega
          have Hll := Lib.hid hll
          have hmdm : md ≤ 1000000 := by omega
          obtain ⟨SL, hSL⟩ : ∃ SL, SL = (w.heap.size + 1) :: G.toList := ⟨_, rfl⟩
          have hS1 : ga ∉ SL := by rw [hSL, List.mem_cons]; rintro (h | h); exact hne1 h; exact hGa h
          have HS1 : Hid (∀ x ∈ G.toList, x ∈ SL) := by unfold Hid; rw [hSL]; exact fun x hx => List.mem_cons_of_mem _ hx
          have HS2 : Hid (w.heap.size + 1 ∈ SL) := by unfold Hid; rw [hSL]; exact mC
          clear hca hLk hdn hll hSL hGa
          go_wp2
          refine Reg.wpYL SL [.r 0, .q 1, .r 2, .r 3, .r 4, .r 5, .n 6, .e 7, .r 8, .e 9] k9 k9 (fun d _ _ _ _ h => by cases d <;> exact h) ?_
          simp only [Reg.pickY, List.getD_cons_succ, List.getD_cons_zero]
          (apply Reg.readYr; (· (intro t K hK; go_simp; (try go_ints); (try ((go_ite <;> go_prune); go_simp)); (try go_ints); exact hK _ rfl)); (· (intro K hK; go_simp; exact hK _ rfl)))
          (apply Reg.readYq; (· (intro t K hK; go_simp; (try go_ints); (try ((go_ite <;> go_prune); go_simp)); (try go_ints); exact hK _ rfl)); (· (intro K hK; go_simp; exact hK _ rfl)))
          iterate 4 (apply Reg.readYr; (· (intro t K hK; go_simp; (try go_ints); (try ((go_ite <;> go_prune); go_simp)); (try go_ints); exact hK _ rfl)); (· (intro K hK; go_simp; exact hK _ rfl)))
          clear k0 k1 c1
          refine Reg.effYn ?_
          go_wp2
          have hO6 := (Only.refl [] wr.drew).alloc (.cells #[.int .u8 (v : Int)] 5)
          refine ⟨hO6, ?_⟩
          refine Reg.effYe ?_
          refine ZP rfl (.tmp 24) (.tmp 29) 39 5 rfl (.int .u8 0) 1 Tryz.underlying39 qv rfl Ad md cd (cN .u8 ((Nm.dg 256 X).drop (j + 1)).reverse) G rfl (by rw [ye]; exact Hll.out.symm) (hown.drew.keep hO6 s9) (some ⟨wr.heap.size, 0, none⟩) 1 1 (cN .u8 [v]) rfl rfl (RV.new (w := wr.drew) rfl) Yw (by rw [ye, ye, Hll.out]; simp; omega) d9 ?_
          intro A2 c2 w2 G2 hown2 hG2
          have hx := Zu hG2
          have hQ : Only [] wr (wr.drew.alloc (.cells #[.int .u8 (v : Int)] 5)) := Only.undrew hO6
          have hn2 : New W2 G2 := by
            rcases hG2 with ⟨e, _⟩ | ⟨e, _⟩
            · rw [e]; exact hnew
            · rw [e]; intro g hg; injection hg with hg; have := hOk.size; simp at hg; omega
          have hBk2 := (hBk.keep hQ s9).keep hx hGn
          rw [← y1, ← Hdn.out] at hown2
          have hOk2 : Only [w.heap.size + 1] W2 w2 := (hOk.trans hQ s9).trans hx (hnew.out)
          have hG2n : ∀ g, G2 = some g → g ∉ [w.heap.size + 1] := by
            intro g hg hm
            have := hn2 g hg
            simp at hm
            omega
          refine Reg.done (hx.mono fun x hx _ => HS1.out x hx) ?_
          obtain ⟨k0, k1, f0, f1⟩ := hBk2.two
          clear hG2 hx hown hnew hBk hOk hQ hO6
          (apply Reg.readYr; (· (intro t K hK; go_simp; (try go_ints); (try ((go_ite <;> go_prune); go_simp)); (try go_ints); exact hK _ rfl)); (· (intro K hK; go_simp; exact hK _ rfl)))
          refine Reg.effYe ?_
          go_wp2
          refine ⟨(Only.refl SL w2).setCell (p := ⟨w.heap.size + 1, 1, none⟩) (.inl HS2.out) _, ?_⟩
          refine Reg.finY ?_
          go_wp2
          go_roundw
          case rel => exact ⟨j, _, A2, md + 1, c2, G2, rfl, by go_num, by omega, by omega, hBk2.set 1 _, hown2.keep ((Only.refl [w.heap.size + 1] w2).setCell (p := ⟨w.heap.size + 1, 1, none⟩) (.inl s9) _) hG2n, hn2, hOk2.setCell (p := ⟨w.heap.size + 1, 1, none⟩) (.inl s9) _⟩
          case measure => simp [intOf]
set_option maxHeartbeats 4000000 in
set_option maxRecDepth 100000 in
theorem ofR_pos (w : World) (U : Nat) (hU : U ≤ 9223372036854775807) : Calls Tryz.prog 69 #[.int .i64 (U : Int)] w (RV1 w (U : Int)) := by
  have hO0 : Only [] w (w.alloc (.cells #[.bool false, .slice none 0 0] 41)) := (Only.refl [] w).alloc _
  have HU : Hid (U < 256 ^ 8) := Nat.lt_of_le_of_lt hU (by decide +kernel)
  have Hsg : Hid (sgn false U = (U : Int)) := rfl
  go_enter Tryz.func69, Tryz.ntmps69
  go_wp2
  go_loopw [3, 4, 5] (fun out m _ wr => ∃ (k V : Nat) (Ao : Option Addr) (co : Nat) (G : Option Nat), out = .slice Ao k co ∧ m = .int .i64 ((V : Int)) ∧ Hid (V = U / 256 ^ k) ∧ V ≤ 9223372036854775808 ∧ k ≤ 9 ∧ OwnS wr 5 Ao co (cN .u8 (Nm.pad 256 k U)) G ∧ New (w.alloc (.cells #[.bool false, .slice none 0 0] 41)) G ∧ Only [] (w.alloc (.cells #[.bool false, .slice none 0 0] 41)) wr) (fun out _ _ _ => 10 - lenV out)
  case atStart => exact ⟨0, U, none, 0, none, rfl, rfl, by unfold Hid; simp, by omega, by omega, OwnS.none _ _, New.none _, Only.refl _ _⟩
  case round =>
    obtain ⟨k, V, Ao, co, G, rfl, rfl, hV, hVb, hk9, hown, hnew, hO⟩ := hrel
    by_cases hV0 : V = 0
    · subst hV0
      have hUk : U < 256 ^ k := Nat.lt_of_not_le fun h => by have := Nat.div_pos h (Nat.pow_pos (by decide)); have := hV.out; omega
      have hle : k ≤ co := by have := hown.le; simpa using this
      have hR := hown.reads
      have hBr := (ZT w).keep hO (by simp)
      have hsz : w.heap.size < wr.heap.size := Nat.lt_of_lt_of_le (by simp) hO.size
      have HUk := Lib.hid hUk
      clear hUk hown hnew
      go_wp2_with (go_at_call 115
                   have hb := qW wr false Ao k co U hle (by omega) HUk.out hR
                   rw [Hsg.out] at hb
                   refine hb.mono ?_
                   rintro e w9 ⟨s9, A9, n9, c9, rfl, hI9, hF9, hO9⟩
                   have hBr9 := hBr.keep hO9 (by simp)
                   obtain ⟨p0, p1, f0, f1⟩ := hBr9.two)
      exact bodyPost_ret (results_cell_row rfl _ _ w.heap.size 41 #[.bool s9, .slice A9 n9 c9] (0, 0) _ rfl (hBr9.put2 _ _) Tryz.underlying41 rfl isz) rfl (RV1.of rfl hI9 hF9 hsz (Nat.le_refl _) ((hO0.trans' hO).trans' hO9) (yd _ _ _ _))
    · obtain ⟨r, Hr⟩ : ∃ r, Hid (r = V % 256) := ⟨_, rfl⟩
      obtain ⟨q, Hq⟩ : ∃ q, Hid (q = V / 256) := ⟨_, rfl⟩
      have hk8 : k < 8 := by
        apply Nat.lt_of_not_le
        intro h
        have h1 : U < 256 ^ k := Nat.lt_of_lt_of_le HU.out (Nat.pow_le_pow_right (by decide) h)
        exact hV0 (by rw [hV.out, Nat.div_eq_of_lt h1])
      have hq1 : q ≤ 9223372036854775808 := by have := Hq.out; omega
      have hr1 : (r : Int) < 256 := by have := Hr.out; omega
      have hchs : cN .u8 (Nm.pad 256 (k + 1) U) = cN .u8 (Nm.pad 256 k U) ++ cN .u8 [r] := by
        rw [Nm.pad_snoc, y1, Hr.out, hV.out]
      have Hchs := Lib.hid hchs
      have Hq2 : Hid (q = U / 256 ^ (k + 1)) := by unfold Hid; rw [Hq.out, hV.out, Nat.div_div_eq_div_mul, Nat.pow_succ]
      clear hchs
      have hV0b : ((V : Int) != 0) = true := by rw [bne_iff_ne]; omega
      have hrI : (V : Int) % 256 = (r : Int) := by have := Hr.out; omega
      have hqI : (V : Int) / 256 = (q : Int) := by have := Hq.out; omega
      have hVI : (V : Int) ≤ 9223372036854775807 := by have : V ≤ U := (by rw [hV.out]; exact Nat.div_le_self _ _); omega
      obtain ⟨wj, rfl⟩ : ∃ wj : World, wj = wr := ⟨_, rfl⟩
      go_wp2_with (at_builtin
                   refine ZP rfl (.tmp 17) (.tmp 20) 158 5 rfl (.int .u8 0) 1 Tryz.underlying158 qv rfl Ao k co (cN .u8 (Nm.pad 256 k U)) G rfl (by simp) (hown.keep ((Only.refl [] wj).alloc _) (by simp)) (some ⟨wj.heap.size, 0, none⟩) 1 1 (cN .u8 [r]) rfl rfl (RV.new rfl) Yw (by simp; omega) (by decide) ?_
                   intro A2 c2 w2 G2 hown2 hG2
                   rw [← Hchs.out] at hown2
                   have hx := Zu hG2
                   have hO2 := (hO.alloc (.cells #[.int .u8 ((r : Nat) : Int)] 5)).trans hx hnew.out
                   have hn2 : New (w.alloc (.cells #[.bool false, .slice none 0 0] 41)) G2 := by
                     rcases hG2 with ⟨e, _⟩ | ⟨e, _⟩
                     · rw [e]; exact hnew
                     · rw [e]; intro g hg; injection hg with hg; have := hO.size; simp at hg this; simp; omega
                   clear hG2 hx hown hnew hO)
      go_roundw
      case rel => exact ⟨k + 1, q, A2, c2, G2, rfl, rfl, Hq2, hq1, by omega, hown2, hn2, hO2⟩
      case measure => simp [lenV]; omega
set_option maxHeartbeats 4000000 in
set_option maxRecDepth 100000 in
theorem ofR_neg (w : World) (U : Nat) (hU0 : 0 < U) (hU : U ≤ 9223372036854775808) : Calls Tryz.prog 69 #[.int .i64 (-(U : Int))] w (RV1 w (-(U : Int))) := by
  have hO0 : Only [] w (w.alloc (.cells #[.bool false, .slice none 0 0] 41)) := (Only.refl [] w).alloc _
  have HU : Hid (U < 256 ^ 8) := Nat.lt_of_le_of_lt hU (by decide +kernel)
  have Hsg : Hid (sgn true U = -(U : Int)) := rfl
  have hUI : -(U : Int) < 0 := by omega
  go_enter Tryz.func69, Tryz.ntmps69
  go_wp2
  go_loopw [3, 4, 5] (fun out m _ wr => ∃ (k V : Nat) (Ao : Option Addr) (co : Nat) (G : Option Nat), out = .slice Ao k co ∧ m = .int .i64 (-(V : Int)) ∧ Hid (V = U / 256 ^ k) ∧ V ≤ 9223372036854775808 ∧ k ≤ 9 ∧ OwnS wr 5 Ao co (cN .u8 (Nm.pad 256 k U)) G ∧ New (w.alloc (.cells #[.bool false, .slice none 0 0] 41)) G ∧ Only [] (w.alloc (.cells #[.bool false, .slice none 0 0] 41)) wr) (fun out _ _ _ => 10 - lenV out)
  case atStart => exact ⟨0, U, none, 0, none, rfl, rfl, by unfold Hid; simp, by omega, by omega, OwnS.none _ _, New.none _, Only.refl _ _⟩
  case round =>
    obtain ⟨k, V, Ao, co, G, rfl, rfl, hV, hVb, hk9, hown, hnew, hO⟩ := hrel
    by_cases hV0 : V = 0
    · subst hV0
      have hUk : U < 256 ^ k := Nat.lt_of_not_le fun h => by have := Nat.div_pos h (Nat.pow_pos (by decide)); have := hV.out; omega
      have hle : k ≤ co := by have := hown.le; simpa using this
      have hR := hown.reads
      have hBr := (ZT w).keep hO (by simp)
      have hsz : w.heap.size < wr.heap.size := Nat.lt_of_lt_of_le (by simp) hO.size
      have HUk := Lib.hid hUk
      clear hUk hown hnew
      go_wp2_with (go_at_call 115
                   have hb := qW wr true Ao k co U hle (by omega) HUk.out hR
                   rw [Hsg.out] at hb
                   refine hb.mono ?_
                   rintro e w9 ⟨s9, A9, n9, c9, rfl, hI9, hF9, hO9⟩
                   have hBr9 := hBr.keep hO9 (by simp)
                   obtain ⟨p0, p1, f0, f1⟩ := hBr9.two)
      exact bodyPost_ret (results_cell_row rfl _ _ w.heap.size 41 #[.bool s9, .slice A9 n9 c9] (0, 0) _ rfl (hBr9.put2 _ _) Tryz.underlying41 rfl isz) rfl (RV1.of rfl hI9 hF9 hsz (Nat.le_refl _) ((hO0.trans' hO).trans' hO9) (yd _ _ _ _))
    · obtain ⟨r, Hr⟩ : ∃ r, Hid (r = V % 256) := ⟨_, rfl⟩
      obtain ⟨q, Hq⟩ : ∃ q, Hid (q = V / 256) := ⟨_, rfl⟩
      have hk8 : k < 8 := by
        apply Nat.lt_of_not_le
        intro h
        have h1 : U < 256 ^ k := Nat.lt_of_lt_of_le HU.out (Nat.pow_le_pow_right (by decide) h)
        exact hV0 (by rw [hV.out, Nat.div_eq_of_lt h1])
      have hq1 : q ≤ 9223372036854775808 := by have := Hq.out; omega
      have hr1 : (r : Int) < 256 := by have := Hr.out; omega
      have hchs : cN .u8 (Nm.pad 256 (k + 1) U) = cN .u8 (Nm.pad 256 k U) ++ cN .u8 [r] := by
        rw [Nm.pad_snoc, y1, Hr.out, hV.out]
      have Hchs := Lib.hid hchs
      have Hq2 : Hid (q = U / 256 ^ (k + 1)) := by unfold Hid; rw [Hq.out, hV.out, Nat.div_div_eq_div_mul, Nat.pow_succ]
      clear hchs
      have hV0b : (-(V : Int) != 0) = true := by rw [bne_iff_ne]; omega
      have hV0c : ((V : Int) != 0) = true := by rw [bne_iff_ne]; omega
      have hrI : (-(V : Int)).tmod 256 = -(r : Int) := by rw [Int.neg_tmod, Int.tmod_eq_emod_of_nonneg (by omega)]; have := Hr.out; omega
      have hqI : (-(V : Int)).tdiv 256 = -(q : Int) := by rw [Int.neg_tdiv, Int.tdiv_eq_ediv_of_nonneg (by omega)]; have := Hq.out; omega
      have hVI : (V : Int) ≤ 9223372036854775808 := by omega
      by_cases hr0 : r = 0
      · subst hr0
        obtain ⟨wj, rfl⟩ : ∃ wj : World, wj = wr := ⟨_, rfl⟩
        go_wp2_with (at_builtin
                     refine ZP rfl (.tmp 17) (.tmp 20) 158 5 rfl (.int .u8 0) 1 Tryz.underlying158 qv rfl Ao k co (cN .u8 (Nm.pad 256 k U)) G rfl (by simp) (hown.keep ((Only.refl [] wj).alloc _) (by simp)) (some ⟨wj.heap.size, 0, none⟩) 1 1 (cN .u8 [0]) rfl rfl (RV.new rfl) Yw (by simp; omega) (by decide) ?_
                     intro A2 c2 w2 G2 hown2 hG2
                     rw [← Hchs.out] at hown2
                     have hx := Zu hG2
                     have hO2 := (hO.alloc (.cells #[.int .u8 ((0 : Nat) : Int)] 5)).trans hx hnew.out
                     have hn2 : New (w.alloc (.cells #[.bool false, .slice none 0 0] 41)) G2 := by
                       rcases hG2 with ⟨e, _⟩ | ⟨e, _⟩
                       · rw [e]; exact hnew
                       · rw [e]; intro g hg; injection hg with hg; have := hO.size; simp at hg this; simp; omega
                     clear hG2 hx hown hnew hO)
        go_roundw
        case rel => exact ⟨k + 1, q, A2, c2, G2, rfl, rfl, Hq2, hq1, by omega, hown2, hn2, hO2⟩
        case measure => simp [lenV]; omega
      · have hr0I : -(r : Int) < 0 := by omega
        obtain ⟨wj, rfl⟩ : ∃ wj : World, wj = wr := ⟨_, rfl⟩
        go_wp2_with (at_builtin
                     refine ZP rfl (.tmp 17) (.tmp 20) 158 5 rfl (.int .u8 0) 1 Tryz.underlying158 qv rfl Ao k co (cN .u8 (Nm.pad 256 k U)) G rfl (by simp) (hown.keep ((Only.refl [] wj).alloc _) (by simp)) (some ⟨wj.heap.size, 0, none⟩) 1 1 (cN .u8 [r]) rfl rfl (RV.new rfl) Yw (by simp; omega) (by decide) ?_
                     intro A2 c2 w2 G2 hown2 hG2
                     rw [← Hchs.out] at hown2
                     have hx := Zu hG2
                     have hO2 := (hO.alloc (.cells #[.int .u8 ((r : Nat) : Int)] 5)).trans hx hnew.out
                     have hn2 : New (w.alloc (.cells #[.bool false, .slice none 0 0] 41)) G2 := by
                       rcases hG2 with ⟨e, _⟩ | ⟨e, _⟩
                       · rw [e]; exact hnew
                       · rw [e]; intro g hg; injection hg with hg; have := hO.size; simp at hg this; simp; omega
                     clear hG2 hx hown hnew hO)
        go_roundw
        case rel => exact ⟨k + 1, q, A2, c2, G2, rfl, rfl, Hq2, hq1, by omega, hown2, hn2, hO2⟩
        case measure => simp [lenV]; omega
theorem ofR_any (w : World) (z : Int) (h1 : -9223372036854775808 ≤ z) (h2 : z ≤ 9223372036854775807) : Calls Tryz.prog 69 #[.int .i64 z] w (RV1 w z) := by
  by_cases h : 0 ≤ z
  · obtain ⟨U, rfl⟩ : ∃ U : Nat, z = (U : Int) := ⟨z.toNat, by omega⟩
    exact ofR_pos w U o9
  · obtain ⟨U, rfl⟩ : ∃ U : Nat, z = -(U : Int) := ⟨(-z).toNat, by omega⟩
    exact ofR_neg w U o9 o9
theorem zbG (w : World) (A B : Option Addr) (n c m d X Y : Nat) (hn : n ≤ 1000000) (hm : m ≤ 1000000) (hA : LitS w A n c X) (hB : LitS w B m d Y) :
    Calls Tryz.prog 121 #[.slice A n c, .slice B m d] w fun e w' => ∃ r : Int, e = .returned (.int .i64 r) ∧ Hid (Cmp X Y r) ∧ Only [] w w' := by
  by_cases hnm : n = m
  · subst hnm
    have hX := hA.lt
    have hY := hB.lt
    have HX := Lib.hid hX
    have HY := Lib.hid hY
    clear hX hY
    go_enter Tryz.func121, Tryz.ntmps121
    go_wp2
    go_loopw [4, 5] (fun _ i wr => ∃ k : Nat, k ≤ n ∧ ∃ z : Int, z = (k : Int) - 1 ∧ i = .int .i64 z ∧ Hid (X / 256 ^ k = Y / 256 ^ k) ∧ Only [] w wr) (fun _ i _ => (intOf i + 1).toNat)
    case atStart => exact ⟨n, Nat.le_refl _, _, rfl, by go_num, by unfold Hid; rw [Nat.div_eq_of_lt HX.out, Nat.div_eq_of_lt HY.out], Only.refl _ _⟩
    case round =>
      obtain ⟨k, hk, z, hz, rfl, he, hO⟩ := hrel
      rcases (show k = 0 ∨ ∃ j, k = j + 1 from by cases k; exact .inl rfl; exact .inr ⟨_, rfl⟩) with rfl | ⟨j, rfl⟩
      · obtain rfl : z = -1 := by omega
        clear hz
        go_wp2
        go_ret
        exact ⟨0, rfl, .inr (.inl ⟨by simpa using he.out, rfl⟩), hO⟩
      · obtain rfl : z = (j : Int) := by omega
        clear hz
        obtain ⟨ga, oa, rfl, hga, hca⟩ := (hA.keep hO).at o9
        obtain ⟨gb, ob, rfl, hgb, hcb⟩ := (hB.keep hO).at o9
        have c1 := hca j o9
        have c2 := hcb j o9
        clear hca hcb
        have ht := Lib.hid (Nm.cmp_top he.out)
        have ht' := Lib.hid (Nm.cmp_top he.out.symm)
        generalize X / 256 ^ j % 256 = x at c1 ht ht'
        generalize Y / 256 ^ j % 256 = y at c2 ht ht'
        have hjn : (j : Int) < (n : Int) := by omega
        have hjm : (j : Int) ≤ 1000000 := by omega
        by_cases h0 : x = y
        · subst h0
          have Ht := Lib.hid (ht.out.1 rfl)
          clear ht ht'
          go_wp2
          refine Reg.wp [] [.r 0, .r 1, .r 2, .r 3, .r 4, .r 5, .r 6, .r 7, .r 8] k9 k9 (fun d _ _ _ _ h => by cases d <;> exact h) ?_
          simp only [Reg.pick, List.getD_cons_succ, List.getD_cons_zero]
          iterate 9 (apply Reg.read; (· (intro t K hK; go_simp; (try go_ints); (try ((go_ite <;> go_prune); go_simp)); (try go_ints); exact hK _ rfl)); (· (intro K hK; go_simp; exact hK _ rfl)))
          refine Reg.fin ?_
          go_wp2
          go_roundw
          case rel => exact ⟨j, by omega, _, rfl, by go_num, Ht, hO.drew⟩
          case measure => simp [intOf]
        · have e1 : ((x : Int) != (y : Int)) = true := by rw [bne_iff_ne]; omega
          have e2 : ((x : Int) == (y : Int)) = false := beq_eq_false_iff_ne.2 o9
          by_cases h1 : x < y
          · have h1I : (x : Int) < (y : Int) := by omega
            go_wp2
            refine Reg.wp [] [.r 0, .r 1, .r 2, .r 3, .r 4, .r 5, .r 6, .r 7, .r 8] k9 k9 (fun d _ _ _ _ h => by cases d <;> exact h) ?_
            simp only [Reg.pick, List.getD_cons_succ, List.getD_cons_zero]
            iterate 9 (apply Reg.read; (· (intro t K hK; go_simp; (try go_ints); (try ((go_ite <;> go_prune); go_simp)); (try go_ints); exact hK _ rfl)); (· (intro K hK; go_simp; exact hK _ rfl)))
            refine Reg.fin ?_
            go_wp2
            refine Reg.wp [] [.r 0, .r 1, .r 2, .r 3, .r 4, .r 5, .r 6, .r 7, .r 8] k9 k9 (fun d _ _ _ _ h => by cases d <;> exact h) ?_
            simp only [Reg.pick, List.getD_cons_succ, List.getD_cons_zero]
            iterate 9 (apply Reg.read; (· (intro t K hK; go_simp; (try go_ints); (try ((go_ite <;> go_prune); go_simp)); (try go_ints); exact hK _ rfl)); (· (intro K hK; go_simp; exact hK _ rfl)))
            refine Reg.fin ?_
            go_wp2
            go_ret
            exact ⟨-1, rfl, .inl ⟨ht.out.2 h1, rfl⟩, hO.drew.drew⟩
          · have h1I : (y : Int) ≤ (x : Int) := by omega
            go_wp2
            refine Reg.wp [] [.r 0, .r 1, .r 2, .r 3, .r 4, .r 5, .r 6, .r 7, .r 8] k9 k9 (fun d _ _ _ _ h => by cases d <;> exact h) ?_
            simp only [Reg.pick, List.getD_cons_succ, List.getD_cons_zero]
            iterate 9 (apply Reg.read; (· (intro t K hK; go_simp; (try go_ints); (try ((go_ite <;> go_prune); go_simp)); (try go_ints); exact hK _ rfl)); (· (intro K hK; go_simp; exact hK _ rfl)))
            refine Reg.fin ?_
            go_wp2
            refine Reg.wp [] [.r 0, .r 1, .r 2, .r 3, .r 4, .r 5, .r 6, .r 7, .r 8] k9 k9 (fun d _ _ _ _ h => by cases d <;> exact h) ?_
            simp only [Reg.pick, List.getD_cons_succ, List.getD_cons_zero]
            iterate 9 (apply Reg.read; (· (intro t K hK; go_simp; (try go_ints); (try ((go_ite <;> go_prune); go_simp)); (try go_ints); exact hK _ rfl)); (· (intro K hK; go_simp; exact hK _ rfl)))
            refine Reg.fin ?_
            go_wp2
            go_ret
            exact ⟨1, rfl, .inr (.inr ⟨ht'.out.2 o9, rfl⟩), hO.drew.drew⟩
  · have e1 : ((n : Int) == (m : Int)) = false := beq_eq_false_iff_ne.2 o9
    have e2 : ((n : Int) != (m : Int)) = true := by rw [bne_iff_ne]; omega
    have hla := hA.n_eq
    have hlb := hB.n_eq
    by_cases hlt : n < m
    · have hltI : (n : Int) < (m : Int) := by omega
      have hxy : X < Y := Nm.cmp_len (B := 256) d9 o9
      clear hla hlb hA hB
      go_enter Tryz.func121, Tryz.ntmps121
      go_wp2
      go_ret
      exact ⟨-1, rfl, .inl ⟨hxy, rfl⟩, Only.refl _ _⟩
    · have hltI : (m : Int) ≤ (n : Int) := by omega
      have hxy : Y < X := Nm.cmp_len (B := 256) d9 o9
      clear hla hlb hA hB
      go_enter Tryz.func121, Tryz.ntmps121
      go_wp2
      go_ret
      exact ⟨1, rfl, .inr (.inr ⟨hxy, rfl⟩), Only.refl _ _⟩
theorem zaN {B k x d : Nat} (hB : 0 < B) (hx : x < B ^ k) (hd : d < B) : Nm.pad B (k + 1) (x + d * B ^ k) = Nm.pad B k x ++ [d] := by
  have hp : 0 < B ^ k := Nat.pow_pos hB
  rw [Nm.pad_snoc]
  have e1 : (x + d * B ^ k) / B ^ k % B = d := by rw [Nat.add_mul_div_right _ _ hp, Nat.div_eq_of_lt hx, Nat.zero_add, Nat.mod_eq_of_lt hd]
  rw [e1]
  congr 1
  refine Nm.pad_ext fun i hi => ?_
  rw [← Nm.div_mod_low (x := x + d * B ^ k) hB hi, Nat.add_mul_mod_self_right, Nat.mod_eq_of_lt hx]
theorem sm_grow {B : Nat} (hB : 0 < B) (X Y k d : Nat) (hd : d = (Nm.sm B X Y k / B ^ k + (X / B ^ k % B + Y / B ^ k % B)) % B) :
    Nm.pad B (k + 1) (Nm.sm B X Y (k + 1) % B ^ (k + 1)) = Nm.pad B k (Nm.sm B X Y k % B ^ k) ++ [d] := by
  rw [(Nm.sm_step hB X Y k).2, ← hd, zaN hB (Nat.mod_lt _ (Nat.pow_pos hB)) (by rw [hd]; exact Nat.mod_lt _ hB)]
theorem plusR_any (w : World) (A B : Option Addr) (n c m d X Y : Nat) (hn : n ≤ 100000) (hm : m ≤ 100000) (hA : LitS w A n c X) (hB : LitS w B m d Y) :
    Calls Tryz.prog 124 #[.slice A n c, .slice B m d] w fun e w' => ∃ A' n' c', e = .returned (.slice A' n' c') ∧ LitS w' A' n' c' (X + Y) ∧ Frs w A' ∧ Only [] w w' := by
  have Hn := Lib.hid hA.n_eq
  have Hm := Lib.hid hB.n_eq
  go_enter Tryz.func124, Tryz.ntmps124
  go_wp2
  go_loopw [5, 6, 7, 8] (fun out carry i _ wr => ∃ (k cr : Nat) (Ao : Option Addr) (co : Nat) (G : Option Nat), out = .slice Ao k co ∧ carry = .int .i64 (cr : Int) ∧ i = .int .i64 (k : Int) ∧ Hid (cr = Nm.sm 256 X Y k / 256 ^ k) ∧ k ≤ n + m + 1 ∧ OwnS wr 5 Ao co (cN .u8 (Nm.pad 256 k (Nm.sm 256 X Y k % 256 ^ k))) G ∧ New w G ∧ Only [] w wr) (fun _ _ i _ _ => n + m + 2 - (intOf i).toNat)
  case atStart => exact ⟨0, 0, none, 0, none, rfl, rfl, rfl, by unfold Hid; rw [Nm.sm_zero, Nat.zero_div], by omega, OwnS.none _ _, New.none _, Only.refl _ _⟩
  case round =>
    obtain ⟨k, cr, Ao, co, G, rfl, rfl, rfl, hcr, hk, hown, hnew, hO⟩ := hrel
    have hcr1 := Nm.sm_carry (B := 256) d9 X Y k
    rw [← hcr.out] at hcr1
    have hcrI : (cr : Int) ≤ 1 := by omega
    have hst := Lib.hid (Nm.sm_step (B := 256) d9 X Y k).1
    have hfl := Lib.hid (fun d => sm_grow (B := 256) d9 X Y k d)
    rw [← hcr.out] at hst hfl
    have hxl : X / 256 ^ k % 256 < 256 := Nat.mod_lt _ d9
    have hyl : Y / 256 ^ k % 256 < 256 := Nat.mod_lt _ d9
    have hx0 : n ≤ k → X / 256 ^ k % 256 = 0 := fun h => Nm.high_zero d9 (by rw [← Hn.out]; exact h)
    have hy0 : m ≤ k → Y / 256 ^ k % 256 = 0 := fun h => Nm.high_zero d9 (by rw [← Hm.out]; exact h)
    have hkm : (k : Int) ≤ 300000 := by omega
    have hcz : k = n + m + 1 → cr = 0 := by
      intro h
      rw [hcr.out, Nm.sm_all d9 (by rw [← Hn.out]; omega) (by rw [← Hm.out]; omega)]
      refine Nat.div_eq_of_lt ?_
      have := Nm.sum_lt (B := 256) (X := X) (Y := Y) (i := n + m) d9 (by rw [← Hn.out]; omega) (by rw [← Hm.out]; omega)
      rw [h]
      exact this
    by_cases hka : k < n
    · have hkaI : (k : Int) < (n : Int) := by omega
      obtain ⟨ga, oa, hAe, hga, hca⟩ := (hA.keep hO).at o9
      have c1 := hca k hka
      generalize X / 256 ^ k % 256 = x at c1 hst hfl hxl
      have hxI : (x : Int) < 256 := by omega
      by_cases hkb : k < m
      · have hkbI : (k : Int) < (m : Int) := by omega
        obtain ⟨gb, ob, hBe, hgb, hcb⟩ := (hB.keep hO).at o9
        have c2 := hcb k hkb
        clear hca hcb hx0 hy0 hcz
        generalize Y / 256 ^ k % 256 = y at c2 hst hfl hyl
        have hyI : (y : Int) < 256 := by omega
        subst hAe hBe
        obtain ⟨dd, Hd⟩ : ∃ d : Nat, Hid (d = (cr + (x + y)) % 256) := ⟨_, rfl⟩
        obtain ⟨ee, He⟩ : ∃ e : Nat, Hid (e = (cr + (x + y)) / 256) := ⟨_, rfl⟩
        have hd : ((cr : Int) + (x : Int) + (y : Int)) % 256 = (dd : Int) := by have := Hd.out; omega
        have he : ((cr : Int) + (x : Int) + (y : Int)) / 256 = (ee : Int) := by have := He.out; omega
        have hd2 : (dd : Int) < 256 := by have := Hd.out; omega
        have hgr := Lib.hid (congrArg (cN .u8) (hfl.out dd Hd.out))
        obtain ⟨wj, rfl⟩ : ∃ wj : World, wj = wr := ⟨_, rfl⟩
        go_wp2_with (at_builtin
                     refine ZP rfl (.tmp 48) (.tmp 52) 158 5 rfl (.int .u8 0) 1 Tryz.underlying158 qv rfl Ao k co (cN .u8 (Nm.pad 256 k (Nm.sm 256 X Y k % 256 ^ k))) G rfl s9 (hown.keep ((Only.refl [] wj).alloc _) s9) (some ⟨wj.heap.size, 0, none⟩) 1 1 (cN .u8 [dd]) rfl rfl (RV.new rfl) Yw (by simp; omega) d9 ?_
                     intro A2 c2 w2 G2 hown2 hG2
                     rw [← y1, ← hgr.out] at hown2
                     have hx := Zu hG2
                     have hO2 := (hO.alloc (.cells #[.int .u8 (dd : Int)] 5)).trans hx hnew.out
                     have hn2 : New w G2 := by
                       rcases hG2 with ⟨e, _⟩ | ⟨e, _⟩
                       · rw [e]; exact hnew
                       · rw [e]; intro g hg; injection hg with hg; have := hO.size; simp at hg; omega
                     clear hG2 hx hown hnew hO)
        go_roundw
        case rel => exact ⟨k + 1, ee, A2, c2, G2, rfl, by first | rfl | rw [he], by go_num, by unfold Hid; rw [hst.out]; exact He.out, by omega, hown2, hn2, hO2⟩
        case measure => simp [intOf]; omega
      · have hkbI : (m : Int) ≤ (k : Int) := by omega
        rw [hy0 o9, Nat.add_zero] at hst hfl
        clear hca hx0 hy0 hyl hcz
        subst hAe
        obtain ⟨dd, Hd⟩ : ∃ d : Nat, Hid (d = (cr + (x)) % 256) := ⟨_, rfl⟩
        obtain ⟨ee, He⟩ : ∃ e : Nat, Hid (e = (cr + (x)) / 256) := ⟨_, rfl⟩
        have hd : ((cr : Int) + (x : Int)) % 256 = (dd : Int) := by have := Hd.out; omega
        have he : ((cr : Int) + (x : Int)) / 256 = (ee : Int) := by have := He.out; omega
        have hd2 : (dd : Int) < 256 := by have := Hd.out; omega
        have hgr := Lib.hid (congrArg (cN .u8) (hfl.out dd Hd.out))
        obtain ⟨wj, rfl⟩ : ∃ wj : World, wj = wr := ⟨_, rfl⟩
        go_wp2_with (at_builtin
                     refine ZP rfl (.tmp 48) (.tmp 52) 158 5 rfl (.int .u8 0) 1 Tryz.underlying158 qv rfl Ao k co (cN .u8 (Nm.pad 256 k (Nm.sm 256 X Y k % 256 ^ k))) G rfl s9 (hown.keep ((Only.refl [] wj).alloc _) s9) (some ⟨wj.heap.size, 0, none⟩) 1 1 (cN .u8 [dd]) rfl rfl (RV.new rfl) Yw (by simp; omega) d9 ?_
                     intro A2 c2 w2 G2 hown2 hG2
                     rw [← y1, ← hgr.out] at hown2
                     have hx := Zu hG2
                     have hO2 := (hO.alloc (.cells #[.int .u8 (dd : Int)] 5)).trans hx hnew.out
                     have hn2 : New w G2 := by
                       rcases hG2 with ⟨e, _⟩ | ⟨e, _⟩
                       · rw [e]; exact hnew
                       · rw [e]; intro g hg; injection hg with hg; have := hO.size; simp at hg; omega
                     clear hG2 hx hown hnew hO)
        go_roundw
        case rel => exact ⟨k + 1, ee, A2, c2, G2, rfl, by first | rfl | rw [he], by go_num, by unfold Hid; rw [hst.out]; exact He.out, by omega, hown2, hn2, hO2⟩
        case measure => simp [intOf]; omega
    · have hkaI : (n : Int) ≤ (k : Int) := by omega
      rw [hx0 o9, Nat.zero_add] at hst hfl
      by_cases hkb : k < m
      · have hkbI : (k : Int) < (m : Int) := by omega
        obtain ⟨gb, ob, hBe, hgb, hcb⟩ := (hB.keep hO).at o9
        have c2 := hcb k hkb
        clear hcb hx0 hy0 hxl hcz
        generalize Y / 256 ^ k % 256 = y at c2 hst hfl hyl
        have hyI : (y : Int) < 256 := by omega
        subst hBe
        obtain ⟨dd, Hd⟩ : ∃ d : Nat, Hid (d = (cr + (y)) % 256) := ⟨_, rfl⟩
        obtain ⟨ee, He⟩ : ∃ e : Nat, Hid (e = (cr + (y)) / 256) := ⟨_, rfl⟩
        have hd : ((cr : Int) + (y : Int)) % 256 = (dd : Int) := by have := Hd.out; omega
        have he : ((cr : Int) + (y : Int)) / 256 = (ee : Int) := by have := He.out; omega
        have hd2 : (dd : Int) < 256 := by have := Hd.out; omega
        have hgr := Lib.hid (congrArg (cN .u8) (hfl.out dd Hd.out))
        obtain ⟨wj, rfl⟩ : ∃ wj : World, wj = wr := ⟨_, rfl⟩
        go_wp2_with (at_builtin
                     refine ZP rfl (.tmp 48) (.tmp 52) 158 5 rfl (.int .u8 0) 1 Tryz.underlying158 qv rfl Ao k co (cN .u8 (Nm.pad 256 k (Nm.sm 256 X Y k % 256 ^ k))) G rfl s9 (hown.keep ((Only.refl [] wj).alloc _) s9) (some ⟨wj.heap.size, 0, none⟩) 1 1 (cN .u8 [dd]) rfl rfl (RV.new rfl) Yw (by simp; omega) d9 ?_
                     intro A2 c2 w2 G2 hown2 hG2
                     rw [← y1, ← hgr.out] at hown2
                     have hx := Zu hG2
                     have hO2 := (hO.alloc (.cells #[.int .u8 (dd : Int)] 5)).trans hx hnew.out
                     have hn2 : New w G2 := by
                       rcases hG2 with ⟨e, _⟩ | ⟨e, _⟩
                       · rw [e]; exact hnew
                       · rw [e]; intro g hg; injection hg with hg; have := hO.size; simp at hg; omega
                     clear hG2 hx hown hnew hO)
        go_roundw
        case rel => exact ⟨k + 1, ee, A2, c2, G2, rfl, by first | rfl | rw [he], by go_num, by unfold Hid; rw [hst.out]; exact He.out, by omega, hown2, hn2, hO2⟩
        case measure => simp [intOf]; omega
      · have hkbI : (m : Int) ≤ (k : Int) := by omega
        rw [hy0 o9, Nat.add_zero] at hst hfl
        by_cases hc0 : cr = 0
        · have hsum := Nm.sm_all (B := 256) (X := X) (Y := Y) (i := k) d9 (by rw [← Hn.out]; omega) (by rw [← Hm.out]; omega)
          have hlt : X + Y < 256 ^ k := by
            have h := hcr.out
            rw [hsum, hc0] at h
            exact Nat.lt_of_not_le fun h' => by have := Nat.div_pos h' (Nat.pow_pos d9); omega
          rw [hsum, Nat.mod_eq_of_lt hlt] at hown
          have hle : k ≤ co := by have := hown.le; simpa using this
          have hF := Kl hown hnew
          have hR := hown.reads
          have Hlt := Lib.hid hlt
          subst hc0
          clear hst hfl hlt hsum hx0 hy0 hxl hyl hcz hown
          go_wp2_with (go_at_call 140; refine (qQ _ Ao k co (X + Y) hle o9 Hlt.out hR).mono ?_; rintro e w' ⟨m', rfl, rfl, hN⟩)
          go_ret
          exact ⟨_, _, _, rfl, hN, hF, hO⟩
        · have hc1 : cr = 1 := by omega
          have hkk : k ≠ n + m + 1 := fun h => hc0 (hcz h)
          have hcp : (0 : Int) < (cr : Int) := by omega
          clear hx0 hy0 hxl hyl hcz hc0 hc1
          obtain ⟨dd, Hd⟩ : ∃ d : Nat, Hid (d = (cr + (0)) % 256) := ⟨_, rfl⟩
          obtain ⟨ee, He⟩ : ∃ e : Nat, Hid (e = (cr + (0)) / 256) := ⟨_, rfl⟩
          have hd : ((cr : Int)) % 256 = (dd : Int) := by have := Hd.out; omega
          have he : ((cr : Int)) / 256 = (ee : Int) := by have := He.out; omega
          have hd2 : (dd : Int) < 256 := by have := Hd.out; omega
          have hgr := Lib.hid (congrArg (cN .u8) (hfl.out dd Hd.out))
          obtain ⟨wj, rfl⟩ : ∃ wj : World, wj = wr := ⟨_, rfl⟩
          go_wp2_with (at_builtin
                       refine ZP rfl (.tmp 48) (.tmp 52) 158 5 rfl (.int .u8 0) 1 Tryz.underlying158 qv rfl Ao k co (cN .u8 (Nm.pad 256 k (Nm.sm 256 X Y k % 256 ^ k))) G rfl s9 (hown.keep ((Only.refl [] wj).alloc _) s9) (some ⟨wj.heap.size, 0, none⟩) 1 1 (cN .u8 [dd]) rfl rfl (RV.new rfl) Yw (by simp; omega) d9 ?_
                       intro A2 c2 w2 G2 hown2 hG2
                       rw [← y1, ← hgr.out] at hown2
                       have hx := Zu hG2
                       have hO2 := (hO.alloc (.cells #[.int .u8 (dd : Int)] 5)).trans hx hnew.out
                       have hn2 : New w G2 := by
                         rcases hG2 with ⟨e, _⟩ | ⟨e, _⟩
                         · rw [e]; exact hnew
                         · rw [e]; intro g hg; injection hg with hg; have := hO.size; simp at hg; omega
                       clear hG2 hx hown hnew hO)
          go_roundw
          case rel => exact ⟨k + 1, ee, A2, c2, G2, rfl, by first | rfl | rw [he], by go_num, by unfold Hid; rw [hst.out]; exact He.out, by omega, hown2, hn2, hO2⟩
          case measure => simp [intOf]; omega
theorem zbr (w : World) (s : Bool) (A : Option Addr) (n c : Nat) (x : Int) (hn : n ≤ 100000) (hA : IntS w s A n c x) :
    Calls Tryz.prog 122 #[.agg #[.bool s, .slice A n c]] w fun e w' => ∃ A' n' c', e = .returned (.slice A' n' c') ∧ LitS w' A' n' c' x.natAbs ∧ Frs w A' ∧ Only [] w w' := by
  obtain ⟨hBa, hO0⟩ := WJ w (.bool s) (.slice A n c)
  obtain ⟨K0, K1, -, -⟩ := hBa.two
  have Hn := Lib.hid hA.by_.n_eq
  have hA0 := hA.keep hO0
  have hsz0 : w.heap.size ≤ (w.alloc (.cells #[.bool s, .slice A n c] 41)).heap.size := hO0.size
  generalize hX : x.natAbs = X at Hn ⊢
  have hb := hA0.by_
  rw [hX] at hb
  clear hX hA hA0
  go_enter Tryz.func122, Tryz.ntmps122
  go_wp2
  clear K0 K1
  go_loopw [3, 4] (fun out i wr => ∃ (k : Nat) (z : Int) (Ao : Option Addr) (co : Nat) (G : Option Nat), out = .slice Ao k co ∧ z = (n : Int) - 1 - (k : Int) ∧ i = .int .i64 z ∧ k ≤ n ∧ OwnS wr 5 Ao co (cN .u8 (Nm.pad 256 k X)) G ∧ New (w.alloc (.cells #[.bool s, .slice A n c] 41)) G ∧ Only [] (w.alloc (.cells #[.bool s, .slice A n c] 41)) wr) (fun _ i _ => (intOf i + 1).toNat)
  case atStart => exact ⟨0, _, none, 0, none, rfl, by omega, rfl, Nat.zero_le _, OwnS.none _ _, New.none _, Only.refl _ _⟩
  case round =>
    obtain ⟨k, z, Ao, co, G, rfl, hz, rfl, hk, hown, hnew, hO⟩ := hrel
    by_cases hlt : k < n
    · obtain ⟨r, rfl⟩ : ∃ r : Nat, z = (r : Int) := ⟨z.toNat, by omega⟩
      have hkr : k + r + 1 = n := by omega
      have hrn : (r : Int) < (n : Int) := by omega
      have hrm : (r : Int) ≤ 100000 := by omega
      obtain ⟨g, o, rfl, hg, hc⟩ := (hb.keep hO).at o9
      have c1 := hc k r hkr
      obtain ⟨K0, K1, -, -⟩ := (hBa.keep hO s9).two
      have hgr : cN .u8 (Nm.pad 256 (k + 1) X) = cN .u8 (Nm.pad 256 k X) ++ cN .u8 [X / 256 ^ k % 256] := by rw [Nm.pad_snoc, y1]
      generalize X / 256 ^ k % 256 = dd at c1 hgr
      have Hgr := Lib.hid hgr
      have Hz := Lib.hid hkr
      clear hc hgr hz hkr
      obtain ⟨wj, rfl⟩ : ∃ wj : World, wj = wr := ⟨_, rfl⟩
      go_wp2_with (at_builtin
                   refine ZP rfl (.tmp 13) (.tmp 19) 158 5 rfl (.int .u8 0) 1 Tryz.underlying158 qv rfl Ao k co (cN .u8 (Nm.pad 256 k X)) G rfl s9 (hown.keep ((Only.refl [] wj).alloc _) s9) (some ⟨wj.heap.size, 0, none⟩) 1 1 (cN .u8 [dd]) rfl rfl (RV.new rfl) Yw (by simp; omega) d9 ?_
                   intro A2 c2 w2 G2 hown2 hG2
                   rw [← Hgr.out] at hown2
                   have hx := Zu hG2
                   have hO2 := (hO.alloc (.cells #[.int .u8 (dd : Int)] 5)).trans hx hnew.out
                   have hn2 := hnew
                   have hn3 : New (w.alloc (.cells #[.bool s, .slice (some ⟨g, o, none⟩) n c] 41)) G2 := by
                     rcases hG2 with ⟨e, _⟩ | ⟨e, _⟩
                     · rw [e]; exact hnew
                     · rw [e]; intro g hg; injection hg with hg; have := hO.size; simp at hg this; simp; omega
                   clear hG2 hx hown hnew hO hn2)
      go_roundw
      case rel => exact ⟨k + 1, _, A2, c2, G2, rfl, by have := Hz.out; omega, rfl, by omega, hown2, hn3, hO2⟩
      case measure => simp [intOf]
    · obtain rfl : k = n := by omega
      obtain rfl : z = -1 := by omega
      clear hz
      have hle : k ≤ co := by have := hown.le; simpa using this
      have hL : LitS wr Ao k co X := ⟨Hn.out, hle, by rw [Nm.dg_pad d9, ← Hn.out]; exact hown.reads⟩
      have hF := (Kl hown hnew).le hsz0
      clear hown hnew
      go_wp2
      go_ret
      exact ⟨_, _, _, rfl, hL, hF, hO0.trans' hO⟩
theorem zeros8 (n : Nat) : List.replicate n (Value.int .u8 0) = cN .u8 (Nm.pad 256 n 0) := by rw [qa, Nm.pad_zero]
theorem LitS.pad {w : World} {A : Option Addr} {n c X : Nat} (h : LitS w A n c X) : RV w A (cN .u8 (Nm.pad 256 n X)) := by
  have := h.rd
  rw [Nm.dg_pad d9, ← h.n_eq] at this
  exact this
theorem Vy (w : World) (s : Bool) (A : Option Addr) (n c : Nat) (x : Int) (hn : n ≤ 100000) (hA : IntS w s A n c x) :
    Calls Tryz.prog 113 #[.agg #[.bool s, .slice A n c]] w (RV1 w (-x)) := by
  obtain ⟨hBa, hBr, hO0, hsz⟩ := jc w (.bool s) (.slice A n c) (.bool false) (.slice none 0 0)
  obtain ⟨k0, k1, -, -⟩ := hBa.two
  have Hex : Hid (sgn (!s) x.natAbs = -x) := by unfold Hid; rw [WW, hA.nat]
  have hA0 := hA.keep hO0
  revert hBa hBr hO0 hsz hA0 k0 k1
  generalize hW : (w.alloc (.cells #[.bool s, .slice A n c] 41)).alloc (.cells #[.bool false, .slice none 0 0] 41) = W
  intro hBa hBr hO0 hsz k0 k1 hA0
  have hl0 : w.heap.size < W.heap.size := by omega
  have HW := Lib.hid hW
  clear hW
  go_enter Tryz.func113, Tryz.ntmps113
  go_wp2
  rw [HW.out]
  refine Reg.wp [w.heap.size + 1] [.r 0, .r 1, .r 2, .r 3, .e 4, .e 5, .e 6] k9 k9 (fun d _ _ _ _ h => by cases d <;> exact h) ?_
  simp only [Reg.pick, List.getD_cons_succ, List.getD_cons_zero]
  iterate 4 (apply Reg.read; (· (intro t K hK; go_simp; (try go_ints); (try ((go_ite <;> go_prune); go_simp)); (try go_ints); exact hK _ rfl)); (· (intro K hK; go_simp; exact hK _ rfl)))
  clear k0 k1
  refine Reg.eff ?_
  go_wp2_with fail
  refine (zbr W.drew s A n c x hn hA0.drew).mono ?_
  rintro e w3 ⟨A3, n3, c3, rfl, hL3, -, hO3⟩
  go_wp2
  refine ⟨hO3.mono s9, ?_⟩
  have hn3 : n3 ≤ 100000 := by rw [hL3.n_eq, ← hA.by_.n_eq]; exact hn
  refine Reg.eff ?_
  go_wp2_with (go_at_call 115
               have hb := qW w3 (!s) A3 n3 c3 x.natAbs hL3.le o9 hL3.lt hL3.pad
               rw [Hex.out] at hb
               refine hb.mono ?_
               rintro e w5 ⟨s2, A2, n2, c2, rfl, hI, hF, hO5⟩)
  refine ⟨hO5.mono s9, ?_⟩
  have hsz4 : W.heap.size ≤ w3.heap.size := hO3.size
  have hQ5 : Only [] W w5 := Only.undrew (w := W) (hO3.trans' hO5)
  have hBr5 := hBr.keep hQ5 s9
  obtain ⟨k0, k1, f0, f1⟩ := hBr5.two
  refine Reg.eff ?_
  go_wp2
  refine ⟨yd _ _ _ _, ?_⟩
  refine Reg.fin ?_
  go_wp2
  exact bodyPost_ret (results_cell_row rfl _ _ (w.heap.size + 1) 41 #[.bool s2, .slice A2 n2 c2] (0, 0) _ rfl (hBr5.put2 _ _) Tryz.underlying41 rfl isz) rfl (RV1.of rfl hI hF o9 (Nat.le_add_right _ _) (hO0.trans' hQ5) (yd _ _ _ _))
