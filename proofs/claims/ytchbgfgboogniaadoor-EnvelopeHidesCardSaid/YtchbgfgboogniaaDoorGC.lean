/-
  WHAT EVERY WALK NEEDS, over any program: blocks made since, slices as lists, append, make, strings out of bytes; cells of one kind of integer.
-/
import Derived.Test.YtchbgfgboogniaaDoorGA
import Derived.Test.YtchbgfgboogniaaDoorGB
import Derived.Laws.MakeOwn
import Derived.Lib.ConvBytes
import Derived.Laws.BitsAllLaws
namespace Go.Proofs.YtchbgfgboogniaaDoor
open Go.RowKit
/-- A block made since w0. -/
def New (w0 : World) (G : Option Nat) : Prop := ∀ g, G = some g → w0.heap.size ≤ g
theorem New.none (w0 : World) : New w0 none := fun g h => by cases h
theorem New.next {w0 w : World} {G G' : Option Nat} (h : New w0 G) (ho : w0.heap.size ≤ w.heap.size) (hG : G' = G ∨ G' = some w.heap.size) : New w0 G' := by
  rcases hG with rfl | rfl
  · exact h
  · intro g hg; injection hg with hg; omega
theorem New.far {w0 : World} {G : Option Nat} (h : New w0 G) {g : Nat} (hg : g < w0.heap.size) : g ∉ G.toList := by
  intro hm
  cases G with
  | none => simp at hm
  | some x => simp at hm; have := h x rfl; omega
theorem New.out {w0 : World} {G : Option Nat} (h : New w0 G) {S : List Nat} : ∀ x ∈ G.toList, x < w0.heap.size → x ∈ S := fun _ hx hlt => absurd hx (h.far hlt)
theorem New.le {w0 w1 : World} {G : Option Nat} (h : New w1 G) (hs : w0.heap.size ≤ w1.heap.size) : New w0 G := fun g hg => Nat.le_trans hs (h g hg)
theorem Only.d {S : List Nat} {w w' : World} (h : Only S w w') : Only S w.drew w' := ⟨h.os, h.tape, h.output, h.size, h.block⟩
theorem RV.drew {w : World} {A : Option Addr} {xs : List Value} (h : RV w A xs) : RV w.drew A xs := h
theorem RV.new {w : World} {t : TypeId} {arr : Array Value} {xs : List Value} (h : arr = xs.toArray) : RV (w.alloc (.cells arr t)) (some ⟨w.heap.size, 0, none⟩) xs := by
  subst h
  exact fun _ => ⟨_, 0, rfl, (Blk.new w t xs).lt, fun j _ => by rw [Nat.zero_add]; exact (Blk.new w t xs).cell j⟩
theorem RV.slice {w : World} {A : Option Addr} {xs : List Value} {g o : Nat} (hA : A = some ⟨g, o, none⟩) (h : RV w A xs) (i n : Nat) : RV w (some ⟨g, o + i, none⟩) ((xs.drop i).take n) := by
  intro h0
  have hx : 0 < xs.length := by simp at h0; omega
  obtain ⟨g', o', e, hg, hc⟩ := h hx
  rw [hA] at e
  injection e with e
  injection e with e1 e2
  subst e1 e2
  refine ⟨g, o + i, rfl, hg, fun j hj => ?_⟩
  have hj' : i + j < xs.length ∧ j < n := by simp at hj; omega
  rw [Nat.add_assoc, hc (i + j) hj'.1, List.getElem?_take, if_pos hj'.2, List.getElem?_drop]
theorem Blk.rv {w : World} {g : Nat} {t : TypeId} {cs : List Value} (h : Blk w g t cs) : RV w (some ⟨g, 0, none⟩) cs := fun _ => ⟨_, 0, rfl, h.lt, fun j _ => by rw [Nat.zero_add]; exact h.cell j⟩
theorem OwnS.front {w : World} {e : TypeId} {A : Option Addr} {c : Nat} {xs ys : List Value} {G : Option Nat} (h : OwnS w e A c (xs ++ ys) G) : OwnS w e A c xs G := by
  rcases h with ⟨h1, h2, h3, h4⟩ | ⟨g, r, h1, h2, h3, h4, h5⟩
  · exact .inl ⟨h1, h2, (List.append_eq_nil_iff.1 h3).1, h4⟩
  · exact .inr ⟨g, ys ++ r, h1, h2, by rw [← List.append_assoc]; exact h3, by simp at h4 ⊢; omega, h5⟩
theorem only_app {w w' : World} {G G' : Option Nat} {A A' : Option Addr} {c c' : Nat} (h : (G' = G ∧ A' = A ∧ c' = c ∧ Only G.toList w w') ∨ (G' = some w.heap.size ∧ Only [] w w')) : Only G.toList w w' := by
  rcases h with ⟨_, _, _, h⟩ | ⟨_, h⟩
  · exact h
  · exact h.mono (by simp)
theorem madeCells_one (z : Value) (n : Nat) : (madeCells #[z] n).toList = List.replicate n z := by
  apply List.ext_getElem?
  intro i
  simp only [madeCells, Array.toList_map, Array.toList_range, List.getElem?_map, List.getElem?_replicate]
  by_cases h : i < n
  · rw [List.getElem?_range h]; simp [h, Nat.mod_one]
  · rw [List.getElem?_eq_none (by simpa using h)]; simp [h]
section
variable {P : Program} {w : World} {ops : Array Oper} {rest : List Oper} {o : Oper} {a : Act} {Q : Exit → Act → World → Prop}
theorem run_app (t ty : TypeId) (e : TypeId) (i : TypeInfo) (z : Value) (bytes : Nat) (ht : P.underlying t = some (.slice e)) (hi : P.info? e = some i) (hz : i.zero = some z) (hsize : i.size = 1) (hby : i.bytes = bytes) (hzs : z.cells.size = 1)
    (A : Option Addr) (c : Nat) (xs : List Value) (G : Option Nat) (hown : OwnS w e A c xs G) (B : Option Addr) (d : Nat) (news : List Value) (hr : RV w B news) (h1 : ∀ u ∈ news, u.oneCell' = true)
    (hlen : xs.length + news.length ≤ 1099511627776) (hbs : bytes ≤ 128) :
    ∃ A' c' w' G', (Builtin.append_ #[t, t] ty #[.slice A xs.length c, .slice B news.length d]).run P w = .ok (.slice A' (xs.length + news.length) c') w' ∧ OwnS w' e A' c' (xs ++ news) G' ∧
      ((G' = G ∧ A' = A ∧ c' = c ∧ Only G.toList w w') ∨ (G' = some w.heap.size ∧ Only [] w w')) := by
  by_cases hB : ∃ ad, B = some ad
  · obtain ⟨ad, rfl⟩ := hB
    have hnews : ∀ j u, news[j]? = some u → w.cell? (ad.add j) = some u := by
      intro j u hu
      have hj := (List.getElem?_eq_some_iff.1 hu).1
      obtain ⟨g, o', e1, _, hc⟩ := hr (by omega)
      injection e1 with e1
      subst e1
      rw [Addr.add_mid, hc j hj, hu]
    obtain ⟨v', w', hrun, h2, h3, h4, h5⟩ := run_append_own_at (P := P) w 0 t ty e i z 1 bytes ht hi hz hsize hby hzs (by decide) _ _ xs hown.owns ad news.length d news (by simp) hnews h1
      (by simp only [maxLen]; omega) (by have := Nat.mul_le_mul hlen hbs; omega) (Nat.zero_le _)
    obtain ⟨A', c', rfl, _, h6⟩ := OwnS.of_owns h2
    rw [hown.ownBlock] at h3 h5
    refine ⟨A', c', w', _, hrun, h6, ?_⟩
    have hbb := Nat.mul_le_mul hlen hbs
    rcases hown with ⟨rfl, rfl, rfl, rfl⟩ | ⟨g, r, rfl, rfl, hb, hc, hm⟩
    · by_cases hm0 : news.length = 0
      · have hn0 : news = [] := List.eq_nil_of_length_eq_zero hm0
        subst hn0
        have hA' := h4.2 ⟨rfl, rfl⟩
        injection hA' with e1 e2 e3
        subst e1 e3
        exact .inl ⟨by simp [Value.ownBlock], rfl, rfl, Only.of_grown h3⟩
      · have hr2 := run_append_nil (P := P) w t ty e i z ht hi hz ad news.length d news (by rw [hsize, Nat.mul_one]) hnews (by omega) (by omega) (by rw [hby]; have := Nat.mul_le_mul (show news.length ≤ 1099511627776 by simp at hlen; omega) hbs; omega)
        rw [show ([] : List Value).length = 0 from rfl] at hrun
        rw [hr2] at hrun
        injection hrun with e1 e2
        injection e1 with e3 e4 e5
        subst e2 e3 e5
        exact .inr ⟨by simp [Value.ownBlock], ((Only.refl [] w).drew).alloc _⟩
    · by_cases hroom : xs.length + news.length ≤ c
      · have hr2 := run_append_room (P := P) w t ty e i ht hi g xs.length c (xs ++ r).toArray hb ad news.length d news (by rw [hsize, Nat.mul_one]) hnews h1 hroom (by rw [hsize]; simp; omega)
        rw [hr2] at hrun
        injection hrun with e1 e2
        injection e1 with e3 e4 e5
        subst e3 e5
        exact .inl ⟨by simp [Value.ownBlock], rfl, rfl, Only.of_grown h3⟩
      · have hr2 := run_append_grow (P := P) w t ty e i z ht hi hz ⟨g, 0, none⟩ xs.length c xs (by rw [hsize, Nat.mul_one]) (fun j v hv => by
            have hj := (List.getElem?_eq_some_iff.1 hv).1
            rw [Addr.add_mid, Nat.zero_add, hb.cell, List.getElem?_append_left hj, hv]) ad news.length d news (by rw [hsize, Nat.mul_one]) hnews (by omega) (by omega) (growslice_fits (by omega) (by rw [hby]; omega))
        rw [hr2] at hrun
        injection hrun with e1 e2
        injection e1 with e3 e4 e5
        subst e2 e3 e5
        exact .inr ⟨by simp [Value.ownBlock], ((Only.refl [] w).drew).alloc _⟩
  · have hB' : B = none := by
      cases B with
      | none => rfl
      | some ad => exact absurd ⟨ad, rfl⟩ hB
    subst hB'
    have hm0 : news = [] := by
      rcases Nat.eq_zero_or_pos news.length with h0 | h0
      · exact List.eq_nil_of_length_eq_zero h0
      · obtain ⟨g, o', e1, _⟩ := hr h0
        cases e1
    subst hm0
    have hrun : (Builtin.append_ #[t, t] ty #[.slice A xs.length c, .slice none 0 d]).run P w = .ok (.slice A xs.length c) w := by
      have hxc := hown.le
      rcases hown with ⟨rfl, rfl, rfl, rfl⟩ | ⟨g, r, rfl, rfl, h3, h4, h5⟩
      · simp [Builtin.append_, run_underlying ht, sizeOf, typeInfo, hi, Builtin.lenOf, Builtin.firstCells]
      · simp [Builtin.append_, run_underlying ht, sizeOf, typeInfo, hi, Builtin.lenOf, Builtin.firstCells, hxc, storeCells]
    exact ⟨A, c, w, G, hrun, by simpa using hown, .inl ⟨rfl, rfl, rfl, Only.refl _ _⟩⟩
/-- make([]T, l, c), an element one cell. -/
theorem wpl_make (hgd : o.guard = none) (t : TypeId) (x y : Operand) (ho : o.op = .makeSlice t x y) (e : TypeId) (z : Value) (bytes : Nat) (ht : P.underlying t = some (.slice e))
    (hinfo : (P.info? e).map (fun i => (i.zero, i.size, i.bytes)) = some (some z, 1, bytes)) (hzc : z.cells = #[z]) (kl kc : IntKind) (li ci : Int) (l c : Nat) (hl : li = (l : Int)) (hci : ci = (c : Int)) (hx : a.eval x = .int kl li) (hy : a.eval y = .int kc ci)
    (hlc : l ≤ c) (hc : c ≤ 1099511627776) (hb : bytes ≤ 128)
    (h : ∀ w', OwnS w' e (some ⟨w.heap.size, 0, none⟩) c (List.replicate l z) (some w.heap.size) → Blk w' w.heap.size e (List.replicate c z) → Only [] w w' → wpList P ops Q rest (a.put o.dst (.slice (some ⟨w.heap.size, 0, none⟩) l c)) w') : wpList P ops Q (o :: rest) a w := by
  subst hl hci
  refine wpList_plain hgd fun K hK => ?_
  cases hI : P.info? e with
  | none => rw [hI] at hinfo; cases hinfo
  | some i =>
    rw [hI] at hinfo
    injection hinfo with hinfo
    injection hinfo with h1 h2
    injection h2 with h2 h3
    have hbc := Nat.mul_le_mul hb hc
    have hbI : (i.bytes : Int) * (c : Int) ≤ 281474976710656 := by
      rw [h3]
      have h4 : ((bytes * c : Nat) : Int) ≤ 281474976710656 := by omega
      rw [Int.natCast_mul] at h4
      exact h4
    have hrun := run_make (P := P) w t e i z ht hI h1 kl kc (l : Int) (c : Int) (by omega) (by omega) hbI (by omega)
    unfold Oper.wp execOp
    simp only [ho, hx, hy, Sem.run_bind, hrun, Result.andThen_ok, Sem.run_pure]
    simp only [Int.toNat_natCast, h2, Nat.mul_one, hzc]
    have hB : Blk (w.alloc (.cells (madeCells #[z] c) e)) w.heap.size e (List.replicate c z) := by
      have h4 := Blk.new w e (madeCells #[z] c).toList
      rw [Array.toArray_toList] at h4
      rw [← madeCells_one]
      exact h4
    refine hK _ _ (h _ (.inr ⟨w.heap.size, List.replicate (c - l) z, rfl, rfl, ?_, by simp; omega, by simp only [maxLen]; omega⟩) hB ((Only.refl [] w).alloc _))
    rw [List.replicate_append_replicate, show l + (c - l) = c by omega]
    exact hB
/-- []byte(s). -/
theorem wpl_bytes (hgd : o.guard = none) (src dst e : TypeId) (x : Operand) (ho : o.op = .convert src dst x) (hs : P.underlying src = some .string) (hd : P.underlying dst = some (.slice e)) (he : P.underlying e = some (.int .u8))
    (s : ByteArray) (bs : List UInt8) (hx : a.eval x = .string s) (hbs : s.data.toList = bs)
    (h : ∀ c w', bs.length ≤ c → RV w' (some ⟨w.heap.size, 0, none⟩) (cellsOf bs) → Only [] w w' → wpList P ops Q rest (a.put o.dst (.slice (some ⟨w.heap.size, 0, none⟩) bs.length c)) w') : wpList P ops Q (o :: rest) a w := by
  subst hbs
  refine wpList_plain hgd fun K hK => ?_
  have hrun := run_bytes_of_string (P := P) w src dst e s hs hd he
  unfold Oper.wp execOp
  simp only [ho, hx, Sem.run_bind, hrun, Result.andThen_ok, Sem.run_pure]
  have hsz : s.size = s.data.toList.length := by rw [Array.length_toList]; rfl
  have hge := grownCap_ge w s.size 0 e
  have := h (grownCap w s.size 0 e) (w.drew.alloc (.cells (bytesRow s (grownCap w s.size 0 e)) e ((bytesRow s (grownCap w s.size 0 e)).size, (bytesRow s (grownCap w s.size 0 e)).size + 1))) (by rw [← hsz]; exact hge) ?_ (((Only.refl [] w).drew).alloc _)
  · rw [← hsz] at this
    exact hK _ _ this
  · intro _
    refine ⟨_, 0, rfl, by simp, fun j hj => ?_⟩
    have hj' : j < s.data.toList.length := by simpa using hj
    rw [Nat.zero_add]
    have hb : (w.drew.alloc (.cells (bytesRow s (grownCap w s.size 0 e)) e ((bytesRow s (grownCap w s.size 0 e)).size, (bytesRow s (grownCap w s.size 0 e)).size + 1))).heap[w.heap.size]? = some (.cells (bytesRow s (grownCap w s.size 0 e)) e ((bytesRow s (grownCap w s.size 0 e)).size, (bytesRow s (grownCap w s.size 0 e)).size + 1)) := heap_alloc_new w.drew _
    simp only [World.cell?, hb]
    rw [cellsOf_get hj']
    have hjs : j < s.data.size := by simpa using hj'
    have e2 : (bytesRow s (grownCap w s.size 0 e))[j]? = some (Value.int .u8 (s.data.toList[j].toNat : Int)) := by
      unfold bytesRow
      rw [Array.getElem?_append_left (by simpa using hjs)]
      rw [Array.getElem?_map, Array.getElem?_eq_getElem hjs]
      simp
    simpa using e2
end
@[go_sem] theorem extS_drew2 (S : List Nat) (w : World) (t : { w' : World // Only S w.drew.drew w' }) (p : Addr) (h : p.block < w.heap.size) (hn : p.block ∉ S) : (Reg.extS S w.drew.drew t).cell? p = w.cell? p := t.2.cell (w := w.drew.drew) h hn
@[go_sem] theorem extS_drew3 (S : List Nat) (w : World) (t : { w' : World // Only S w.drew.drew.drew w' }) (p : Addr) (h : p.block < w.heap.size) (hn : p.block ∉ S) : (Reg.extS S w.drew.drew.drew t).cell? p = w.cell? p := t.2.cell (w := w.drew.drew.drew) h hn

/-- Numbers as cells of one kind. -/
def cN (k : IntKind) (l : List Nat) : List Value := l.map fun n : Nat => .int k (n : Int)
@[simp] theorem cN_length (k : IntKind) (l : List Nat) : (cN k l).length = l.length := by simp [cN]
/-- A slice's cell. -/
theorem RV.at {w : World} {A : Option Addr} {xs : List Value} (h : RV w A xs) {i : Nat} (hi : i < xs.length) : ∃ g o, A = some ⟨g, o, none⟩ ∧ g < w.heap.size ∧ ∀ j, j < xs.length → w.cell? ⟨g, o + j, none⟩ = xs[j]? := by
  obtain ⟨g, o, e, hg, hc⟩ := h (by omega)
  exact ⟨g, o, e, hg, hc⟩
theorem RV.front {w : World} {A : Option Addr} {xs ys : List Value} (h : RV w A (xs ++ ys)) : RV w A xs := by
  intro h0
  obtain ⟨g, o, e, hg, hc⟩ := h (by rw [List.length_append]; omega)
  exact ⟨g, o, e, hg, fun j hj => by rw [hc j (by rw [List.length_append]; omega), List.getElem?_append_left hj]⟩
theorem RV.take {w : World} {A : Option Addr} {xs : List Value} (h : RV w A xs) (k : Nat) : RV w A (xs.take k) := by
  rw [← List.take_append_drop k xs] at h
  exact h.front
end Go.Proofs.YtchbgfgboogniaaDoor
