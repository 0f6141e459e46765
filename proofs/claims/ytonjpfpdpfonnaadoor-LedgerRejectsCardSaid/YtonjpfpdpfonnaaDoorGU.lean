/-
  WALKING CODE BY WHAT IS KNOWN: a slice of one's own that is let go of and known from then on; slices that are read in a box. Over any program.
  WALKING CODE BY WHAT IS KNOWN: rows of things of one kind (slices of one's own that grow, and slices that are known), maps by a function, digests, nil. Over any program.
  WALKING CODE BY WHAT IS KNOWN: functions that only read what they are shown: contracts over knowledge, whose results are known apart from everything that is older. Over any program.
  WALKING CODE BY WHAT IS KNOWN: strings and bytes, parts of slices, elements that are stored. Over any program.
-/
import Derived.Test.YtonjpfpdpfonnaaDoorGT
namespace Go.Proofs.YtonjpfpdpfonnaaDoor
open Go.RowKit
namespace Sx
section
variable {P : Program} {Γ : Cx} {σ : St} {S : List Nat} {dst : Option Tmp} {ty : TypeId} {pos : String} {af : Array Edge} {gd : Option (Nat × Bool)} {d : D} {Q : Exit → Act → World → Prop} {a : Act} {w : World}
theorem ins_nil : ∀ s ∈ ([] : List Nat), s ∈ σ.L Γ := fun _ h => by cases h
theorem ins_cons {g : Nat} {ds : List D} {S : List Nat} (j : Nat) (h : σ.bx[j]? = some (.c g ds)) (h2 : ∀ s ∈ S, s ∈ σ.L Γ) : ∀ s ∈ g :: S, s ∈ σ.L Γ := fun s hs => by
  rcases List.mem_cons.1 hs with rfl | hs
  · exact List.mem_append_left _ (mem_fps.2 ⟨_, List.mem_of_getElem? h, List.mem_singleton.2 rfl⟩)
  · exact h2 s hs
theorem ins_app {F : List Nat} {R : Res} {S : List Nat} (j : Nat) (h : σ.bx[j]? = some (.r F R)) (h2 : ∀ s ∈ S, s ∈ σ.L Γ) : ∀ s ∈ F ++ S, s ∈ σ.L Γ := fun s hs => by
  rcases List.mem_append.1 hs with hs | hs
  · exact List.mem_append_left _ (mem_fps.2 ⟨_, List.mem_of_getElem? h, hs⟩)
  · exact h2 s hs
/-- A slot is known by something else. -/
theorem Holds.learn (h : Holds Γ σ a w) {k : Nat} {d' : D} (hd : d'.R (σ.L Γ) w (a.tmps.getD k undef)) : Holds Γ (σ.put k d') a w := by
  refine ⟨h.df, h.sz, fun j e hj => ?_, h.bx, h.nd, h.nw, h.on, h.bs, h.dj⟩
  rw [put_tm] at hj
  by_cases hjk : j = k
  · subst hjk
    simp at hj
    subst hj
    exact hd
  · rw [if_neg hjk] at hj
    exact h.tm j e hj
theorem dropAt_sub {bs : List Box} {js : List Nat} {b : Box} (h : b ∈ dropAt bs 0 js) : b ∈ bs := by
  obtain ⟨i, h1, _⟩ := dropAt_mem h
  exact List.mem_of_getElem? h1
/-- Boxes are let go of. -/
theorem Holds.drop (h : Holds Γ σ a w) (js : List Nat) : Holds Γ ⟨σ.tm, dropAt σ.bx 0 js⟩ a w :=
  h.swap (Only.refl [] w) (by simp) (fun b hb => .inl ⟨dropAt_sub hb, by simp⟩) (fun g hg => .inl (dropAt_fps hg)) (dropAt_nodup h.nd)
theorem apart_drop (h : Holds Γ σ a w) {j : Nat} {b : Box} (hj : σ.bx[j]? = some b) {g : Nat} (hg : g ∈ b.fp) : g ∉ St.L Γ ⟨σ.tm, dropAt σ.bx 0 [j]⟩ := fun hm => by
  rcases List.mem_append.1 hm with hm | hm
  · obtain ⟨c, hc, hgc⟩ := mem_fps.1 hm
    obtain ⟨i, h1, h2⟩ := dropAt_mem hc
    have := fps_at h.nd h1 hj hgc hg
    subst this
    simp at h2
  · have h1 := h.bs g hm
    rcases h.nw g (mem_fps.2 ⟨b, List.mem_of_getElem? hj, hg⟩) with h2 | h2
    · omega
    · exact h.dj.1 g h2 hm
theorem own_at {L L' F : List Nat} {e sz n c : Nat} {A : Option Addr} {ds : List D} (h : (vecR e sz A n c ds).R L F w) (hL : ∀ x ∈ L', x ∈ L ∨ w.heap.size ≤ x) (hF : ∀ g ∈ F, g ∉ L') : n ≤ c ∧ At L' w A ds := by
  obtain ⟨xs, ha, ho, hF'⟩ := h
  have hl := ha.length
  rcases ho.2 with ⟨hv, hn⟩ | ⟨g, cap, cur, hv, _, hg, hnc, _, hcs, htk⟩
  · injection hv with h1 h2 h3
    subst h1 h2 h3
    refine ⟨Nat.le_refl _, fun h0 => ?_⟩
    have := ho.1
    rw [Nat.zero_mul] at this
    omega
  · injection hv with h1 h2 h3
    subst h1 h3
    refine ⟨hnc, fun h0 => ⟨g, 0, rfl, (Array.getElem?_eq_some_iff.1 hg).1, hF g (by rw [hF']; simp [Value.ownBlock]), xs, ha.less hL, fun j hj => ?_⟩⟩
    have hb : w.cell? ⟨g, 0 + j, none⟩ = cur[j]? := by simp [World.cell?, hg]
    rw [hb, ← htk, List.getElem?_take]
    have : j < n * sz := by rw [← ho.1]; exact hj
    rw [if_pos this]
    simp
theorem Holds.freezeV (h : Holds Γ σ a w) {j k e sz n c : Nat} {A : Option Addr} {F : List Nat} {ds : List D} (hj : σ.bx[j]? = some (.r F (vecR e sz A n c ds))) (hk : σ.tm k = some (isD (.slice A n c))) : Holds Γ ((⟨σ.tm, dropAt σ.bx 0 [j]⟩ : St).put k (rwD n ds)) a w := by
  have h1 := h.drop [j]
  refine h1.learn ?_
  have hv : a.tmps.getD k undef = .slice A n c := h.tm k _ hk
  obtain ⟨h2, h3⟩ := own_at (h.resAt hj) (L' := St.L Γ ⟨σ.tm, dropAt σ.bx 0 [j]⟩) (fun x hx => by
    rcases List.mem_append.1 hx with hx | hx
    · exact .inl (List.mem_append_left _ (dropAt_fps hx))
    · exact .inl (List.mem_append_right _ hx)) (fun g hg => apart_drop h hj hg)
  exact ⟨A, c, hv, h2, h3⟩
/-- A slice of one's own is let go of: from now on it is known. -/
theorem SW.freezeV {c : Code} (j k : Nat) {e sz n cp : Nat} {A : Option Addr} {F : List Nat} {ds : List D} (hj : σ.bx[j]? = some (.r F (vecR e sz A n cp ds))) (hk : σ.tm k = some (isD (.slice A n cp))) (h : SW P Γ ((⟨σ.tm, dropAt σ.bx 0 [j]⟩ : St).put k (rwD n ds)) c Q) : SW P Γ σ c Q := fun a w hh => h a w (hh.freezeV hj hk)
theorem SWl.freezeV {ops : Array Oper} {l : List Oper} (j k : Nat) {e sz n cp : Nat} {A : Option Addr} {F : List Nat} {ds : List D} (hj : σ.bx[j]? = some (.r F (vecR e sz A n cp ds))) (hk : σ.tm k = some (isD (.slice A n cp))) (h : SWl P Γ ops Q l ((⟨σ.tm, dropAt σ.bx 0 [j]⟩ : St).put k (rwD n ds))) : SWl P Γ ops Q l σ := fun a w hh => h a w (hh.freezeV hj hk)
theorem SWz.freezeV {l : List Oper} {tz : Reg.Tz} (j k : Nat) {e sz n cp : Nat} {A : Option Addr} {F : List Nat} {ds : List D} (hj : σ.bx[j]? = some (.r F (vecR e sz A n cp ds))) (hk : σ.tm k = some (isD (.slice A n cp))) (h : SWz P Γ l Q S tz ((⟨σ.tm, dropAt σ.bx 0 [j]⟩ : St).put k (rwD n ds))) : SWz P Γ l Q S tz σ := fun a w hh => h a w (hh.freezeV hj hk)
theorem SN.freezeV (j k : Nat) {e sz n cp : Nat} {A : Option Addr} {F : List Nat} {ds : List D} (hj : σ.bx[j]? = some (.r F (vecR e sz A n cp ds))) (hk : σ.tm k = some (isD (.slice A n cp))) (h : SN Γ Q ((⟨σ.tm, dropAt σ.bx 0 [j]⟩ : St).put k (rwD n ds))) : SN Γ Q σ := fun a w hh => h a w (hh.freezeV hj hk)
/-- A thing in which a slice is read. -/
def IsView (R : Res) (v : Value) (xs : List Value) : Prop := ∀ L F w, R.R L F w → ∃ A c, v = .slice A xs.length c ∧ xs.length ≤ c ∧ RV w A xs ∧ (0 < xs.length → ∀ p, A = some p → p.block ∈ F ∨ p.block ∉ L)
def viewR (v : Value) (xs : List Value) : Res where
  R L F w := (∃ A c, v = .slice A xs.length c ∧ xs.length ≤ c ∧ RV w A xs ∧ (0 < xs.length → ∀ p, A = some p → p.block ∈ F ∨ p.block ∉ L)) ∧ ∀ g ∈ F, g < w.heap.size
  lt := fun h => h.2
  keep := fun ⟨⟨A, c, h, hc, hr, ha⟩, hl⟩ ho hS hn => ⟨⟨A, c, h, hc, fun h0 => (hr.keep ho (fun p hp hm => by
    rcases ha h0 p hp with h1 | h1
    · exact hn _ hm h1
    · exact h1 (hS _ hm))) h0, ha⟩, fun g hg => Nat.lt_of_lt_of_le (hl g hg) ho.size⟩
  less := fun ⟨⟨A, c, h, hc, hr, ha⟩, hl⟩ hS => ⟨⟨A, c, h, hc, hr, fun h0 p hp => by
    rcases ha h0 p hp with h1 | h1
    · exact .inl h1
    · right
      intro hm
      obtain ⟨g', o', e, hlt, _⟩ := hr h0
      rw [e] at hp
      injection hp with hp
      subst hp
      rcases hS _ hm with h' | h'
      · exact h1 h'
      · simp only at h'; omega⟩, hl⟩
theorem isView_view (v : Value) (xs : List Value) : IsView (viewR v xs) v xs := fun _ _ _ h => h.1
/-- A known slice is looked at as a thing without blocks. -/
theorem Holds.look (h : Holds Γ σ a w) {k : Nat} {xs : List Value} (hk : σ.tm k = some (slD xs)) : ∃ v, Holds Γ ((⟨σ.tm, σ.bx ++ [.r [] (viewR v xs)]⟩ : St).put k (isD v)) a w := by
  obtain ⟨A, c, hv, hc, hr, ha⟩ := h.tm k _ hk
  refine ⟨.slice A xs.length c, ?_⟩
  have h1 := h.more (Only.refl [] w) (b := .r [] (viewR (.slice A xs.length c) xs)) ⟨⟨A, c, rfl, hc, hr, fun h0 p hp => .inr (ha h0 p hp)⟩, by simp⟩ (by simp [Box.fp]) (by simp [Box.fp])
  exact h1.learn hv
theorem SW.look {c : Code} (k : Nat) {xs : List Value} (hk : σ.tm k = some (slD xs)) (h : ∀ v, SW P Γ ((⟨σ.tm, σ.bx ++ [.r [] (viewR v xs)]⟩ : St).put k (isD v)) c Q) : SW P Γ σ c Q := fun a w hh => by
  obtain ⟨v, h1⟩ := hh.look hk
  exact h v a w h1
/-- Where the values come from that are appended. -/
def Src (Γ : Cx) (σ : St) (y : Operand) (m : Nat) (es : List D) : Prop := ∀ a w, Holds Γ σ a w → ∃ B cy, a.eval y = .slice B m cy ∧ m ≤ cy ∧ (0 < es.length → ∃ g o, B = some ⟨g, o, none⟩ ∧ ∃ cs, All (σ.L Γ) w es cs ∧ ∀ j, j < cs.length → w.cell? ⟨g, o + j, none⟩ = cs[j]?)
theorem Src.of {y : Operand} {m : Nat} {es : List D} {dx : D} (hy : σ.ev y = some dx) (hl : Le dx (rwD m es)) : Src Γ σ y m es := fun a w hh => by
  obtain ⟨B, cy, hyv, hcy, hat⟩ := hl _ _ _ (ev_spec hh hy)
  refine ⟨B, cy, hyv, hcy, fun h0 => ?_⟩
  obtain ⟨g, o, e, _, _, cs, h1, h2⟩ := hat h0
  exact ⟨g, o, e, cs, h1, h2⟩
theorem Src.view {y : Operand} {xs : List Value} {v : Value} {F : List Nat} {R : Res} (j : Nat) (hy : σ.ev y = some (isD v)) (hj : σ.bx[j]? = some (.r F R)) (hR : IsView R v xs) : Src Γ σ y xs.length (xs.map isD) := fun a w hh => by
  have hyv : a.eval y = v := ev_spec hh hy
  obtain ⟨A, c, hv, hc, hr, _⟩ := hR _ _ _ (hh.resAt hj)
  refine ⟨A, c, by rw [hyv, hv], hc, fun h0 => ?_⟩
  obtain ⟨g, o, e, _, h2⟩ := hr (by simpa using h0)
  exact ⟨g, o, e, xs, all_is xs, h2⟩
/-- append(s, x...), s a slice of one's own. -/
theorem Ef.appS {x y : Operand} {T e k n c m : Nat} {A : Option Addr} {F : List Nat} {ds es : List D} [Ones es] (j sz bytes : Nat) (hx : σ.ev x = some (isD (.slice A n c))) (hj : σ.bx[j]? = some (.r F (vecR e sz A n c ds))) (hsrc : Src Γ σ y m es) (hm : es.length = m * sz) (hT : sliceT P T e = true) (hE : elT P e sz bytes = true) (h0 : 0 < m) (hsz : 0 < sz) (hlen : n + m ≤ 1099511627776) (hb : bytes ≤ 128) (hS : ∀ g ∈ F, g ∈ S) (hk : dstOk Γ.nt k = true) :
    Ef P Γ S ⟨some k, .call { callee := .builtin .append, args := #[x, y], argTypes := #[T, T] }, ty, pos, af, gd⟩ σ (fun σ' => ∃ g c', σ' = (σ.give [j] [.r [g] (vecR e sz (some ⟨g, 0, none⟩) (n + m) c' (ds ++ es))]).put k (isD (.slice (some ⟨g, 0, none⟩) (n + m) c'))) := by
  intro a w hh K Q hK
  have hxv : a.eval x = .slice A n c := ev_spec hh hx
  obtain ⟨B, cy, hyv, hcy, hat⟩ := hsrc a w hh
  obtain ⟨i, z, hI, h1, h2, h3, h4⟩ := elT_spec hE
  obtain ⟨xs, ha, hown, hF⟩ := hh.resAt hj
  have hpos : 0 < es.length := by rw [hm]; exact Nat.mul_pos h0 hsz
  obtain ⟨gb, ob, rfl, cs, hcs, hcell⟩ := hat hpos
  have hlc := hcs.length
  obtain ⟨v', w', hrun, ho2, hgr, hnil, hblk⟩ := run_append_own_at (P := P) w 0 T ty e i z sz bytes (sliceT_spec hT) hI h3 h1 h2 h4 hsz _ _ xs hown ⟨gb, ob, none⟩ m cy cs (by rw [hlc, hm]) (fun q u hq => by
    have hq1 := (List.getElem?_eq_some_iff.1 hq).1
    rw [Addr.add_mid, hcell q hq1]
    exact hq) (fun u hu => Ones.h (ds := es) _ _ _ hcs u hu) (by simp only [maxLen]; omega) (by have := Nat.mul_le_mul hlen hb; omega) (Nat.zero_le _)
  have hOn : Only F w w' := by rw [hF]; exact Only.of_grown hgr
  have hFL : ∀ x ∈ F, x ∈ σ.L Γ := fun x hx => List.mem_append_left _ (mem_fps.2 ⟨_, List.mem_of_getElem? hj, hx⟩)
  have hsub : SubBx σ.bx [j] [.r F (vecR e sz A n c ds)] := ⟨⟨_, hj, LeR.refl _⟩, trivial⟩
  have hfp : fps [Box.r F (vecR e sz A n c ds)] = F := by simp [fps, Box.fp]
  rcases ho2.2 with ⟨hv, hz⟩ | ⟨g, cap, cur, rfl, hg0, hg, hnc, hcm, hcs2, htk⟩
  · omega
  · have hgF : g ∈ F ∨ w.heap.size ≤ g := by
      rcases hblk with hb | hb
      · left
        rw [hF, ← hb]
        simp [Value.ownBlock]
      · right
        simp [Value.ownBlock] at hb
        omega
    have hL : ∀ x ∈ [g] ++ (σ.L Γ).filter (· ∉ F), x ∈ σ.L Γ ∨ w.heap.size ≤ x := fun x hx => by
      rcases List.mem_append.1 hx with hx | hx
      · rw [List.mem_singleton.1 hx]
        rcases hgF with h | h
        · exact .inl (hFL g h)
        · exact .inr h
      · exact .inl (List.mem_filter.1 hx).1
    have hall : All ([g] ++ (σ.L Γ).filter (· ∉ F)) w' (ds ++ es) (xs ++ cs) := by
      have h5 : All (σ.L Γ ++ ([g] ++ (σ.L Γ).filter (· ∉ F))) w' (ds ++ es) (xs ++ cs) := by
        refine ((ha.append hcs).less (fun x hx => ?_)).keep hOn (fun x hx => List.mem_append_left _ (hFL x hx))
        rcases List.mem_append.1 hx with hx | hx
        · exact .inl hx
        · exact hL x hx
      exact h5.less (fun x hx => .inl (List.mem_append_right _ hx))
    obtain ⟨h6, h7⟩ := hh.give (post := [.r [g] (vecR e sz (some ⟨g, 0, none⟩) (n + m) cap (ds ++ es))]) hsub (by rw [hfp]; exact hOn) (fun b hb => by
      rw [List.mem_singleton.1 hb]
      refine ⟨xs ++ cs, ?_, ho2, rfl⟩
      rw [hfp]
      exact hall) (by simp [fps, Box.fp]) (fun x hx => by
      have hx : x = g := by simpa [fps, Box.fp] using hx
      rw [hfp, hx]
      exact hgF)
    have e2 : (execOp a.eval ⟨some k, .call { callee := .builtin .append, args := #[x, y], argTypes := #[T, T] }, ty, pos, af, gd⟩).run P w = .ok (.value (.slice (some ⟨g, 0, none⟩) (n + m) cap)) w' := by
      simp only [execOp, resolve, invoke, builtin, Sem.run_bind, Sem.run_pure, Result.andThen_ok, List.map_toArray, List.map_cons, List.map_nil, hxv, hyv, hrun]
    unfold Oper.wp
    rw [e2]
    exact hK _ _ _ ⟨g, cap, rfl⟩ (h6.put (by simpa [dstOk] using hk) rfl) (hOn.mono (fun x hx _ => hS x hx))
end
end Sx
end Go.Proofs.YtonjpfpdpfonnaaDoor
namespace Go.Proofs.YtonjpfpdpfonnaaDoor
open Go.RowKit
namespace Sx
/-- How a thing lies in a row: so many cells. -/
class Row {α : Type} (enc : α → List D) (sz : outParam Nat) : Prop where
  len : ∀ x, (enc x).length = sz
  ones : ∀ x, Ones (enc x)
  pos : 0 < sz
section
variable {α : Type} {enc : α → List D} {sz : Nat}
theorem flat_len [Row enc sz] : ∀ (l : List α), (l.flatMap enc).length = l.length * sz
  | [] => by simp
  | x :: l => by rw [List.flatMap_cons, List.length_append, flat_len l, Row.len (enc := enc) x, List.length_cons, Nat.succ_mul]; omega
instance flat_ones [Row enc sz] (l : List α) : Ones (l.flatMap enc) := ⟨fun d hd => by
  obtain ⟨x, _, h⟩ := List.mem_flatMap.1 hd
  exact (Row.ones (enc := enc) (sz := sz) x).m d h⟩
theorem flat_drop [Row enc sz] : ∀ (l : List α) (i : Nat) (x : α), l[i]? = some x → (l.flatMap enc).drop (i * sz) = enc x ++ (l.drop (i + 1)).flatMap enc
  | [], i, x, h => by simp at h
  | y :: l, 0, x, h => by
    simp at h
    subst h
    simp
  | y :: l, i + 1, x, h => by
    simp at h
    have e : (i + 1) * sz = (enc y).length + i * sz := by rw [Row.len (enc := enc) (sz := sz) y, Nat.succ_mul]; omega
    rw [List.flatMap_cons, e, ← List.drop_drop, List.drop_left]
    simpa using flat_drop l i x h
theorem flat_at [Row enc sz] {l : List α} {i o : Nat} {x : α} {d : D} (h : l[i]? = some x) (hd : (enc x)[o]? = some d) : (l.flatMap enc)[i * sz + o]? = some d := by
  have h1 := flat_drop (enc := enc) (sz := sz) l i x h
  rw [← List.getElem?_drop, h1, List.getElem?_append_left (List.getElem?_eq_some_iff.1 hd).1]
  exact hd
end
/-- A slice that is known, of things of one kind. -/
abbrev lsD {α : Type} (enc : α → List D) (l : List α) : D := rwD l.length (l.flatMap enc)
/-- A slice of one's own. -/
abbrev vecT {α : Type} (e sz : Nat) (enc : α → List D) (A : Option Addr) (c : Nat) (l : List α) : Res := vecR e sz A l.length c (l.flatMap enc)
abbrev SrcT {α : Type} (Γ : Cx) (σ : St) (y : Operand) (enc : α → List D) (l : List α) : Prop := Src Γ σ y l.length (l.flatMap enc)
def encB (x : UInt8) : List D := [isD (B8 x)]
instance : Row encB 1 := ⟨fun _ => rfl, fun x => by unfold encB; infer_instance, by decide⟩
theorem flat_encB : ∀ (b : List UInt8), b.flatMap encB = (cellsOf b).map isD
  | [] => rfl
  | x :: b => by rw [List.flatMap_cons, flat_encB b]; rfl
theorem le_b_ls (b : List UInt8) : Le (slD (cellsOf b)) (lsD encB b) := by
  unfold lsD
  rw [flat_encB]
  have := le_sl_rw (xs := cellsOf b)
  rw [cellsOf_length] at this
  exact this
theorem le_ls_b (b : List UInt8) : Le (lsD encB b) (slD (cellsOf b)) := by
  unfold lsD
  rw [flat_encB]
  have := le_rw_sl (xs := cellsOf b)
  rw [cellsOf_length] at this
  exact this
def encL (b : List UInt8) : List D := [bD b]
instance : Row encL 1 := ⟨fun _ => rfl, fun x => by unfold encL; infer_instance, by decide⟩
def encI (n : Int) : List D := [iD n]
instance : Row encI 1 := ⟨fun _ => rfl, fun x => by unfold encI; infer_instance, by decide⟩
def encT (s : List UInt8) : List D := [strD s]
instance : Row encT 1 := ⟨fun _ => rfl, fun x => by unfold encT; infer_instance, by decide⟩
instance (m : Option Nat) : One (isD (.map m)) := ⟨fun _ _ _ h => by cases h; rfl⟩
theorem leVec {e sz n n' c : Nat} {A : Option Addr} {ds ds' : List D} (hn : n = n') (hd : ds = ds') : LeR (vecR e sz A n c ds) (vecR e sz A n' c ds') := by subst hn hd; exact LeR.refl _
theorem leMap {M : Option Nat} {κ : Type} {enc : κ → Value} {ks ks' : List κ} {ds ds' : List D} (hn : ks = ks') (hd : ds = ds') : LeR (mapR M enc ks ds) (mapR M enc ks' ds') := by subst hn hd; exact LeR.refl _
section
variable {P : Program} {Γ : Cx} {σ : St} {S : List Nat} {dst : Option Tmp} {ty : TypeId} {pos : String} {af : Array Edge} {gd : Option (Nat × Bool)} {d : D} {Q : Exit → Act → World → Prop} {a : Act} {w : World}
/-! nil. -/
theorem Rd.nilCheck {x : Operand} {p : Addr} (hx : σ.ev x = some (isD (.pointer (some p)))) : Rd P Γ S ⟨dst, .nilCheck x, ty, pos, af, gd⟩ σ (isD (.pointer (some p))) := by
  intro a w hh
  have hv : a.eval x = .pointer (some p) := ev_spec hh hx
  exact ⟨_, rfl, fun w' _ => by simp [execOp, hv]⟩
def ptrT (P : Program) (T : Nat) : Bool := match P.underlying T with | some (.pointer _) => true | _ => false
theorem ptrT_spec {T : Nat} (h : ptrT P T = true) : P.underlying T = some (.pointer (P.pointee T)) := by
  unfold ptrT at h
  split at h
  · rename_i e hu
    simp [Program.pointee, hu]
  · cases h
theorem Rd.eqP {x y : Operand} {T yT : Nat} {p : Option Addr} (hx : σ.ev x = some (isD (.pointer p))) (hy : σ.ev y = some (isD (.pointer none))) (hT : ptrT P T = true) : Rd P Γ S ⟨dst, .binOp .eql T x y yT, ty, pos, af, gd⟩ σ (isD (.bool p.isNone)) := Rd.bin hx hy fun w => by
  simp [eqGuard, binOp, run_equal_pointer_nil w T p (ptrT_spec hT)]
theorem Rd.neP {x y : Operand} {T yT : Nat} {p : Option Addr} (hx : σ.ev x = some (isD (.pointer p))) (hy : σ.ev y = some (isD (.pointer none))) (hT : ptrT P T = true) : Rd P Γ S ⟨dst, .binOp .neq T x y yT, ty, pos, af, gd⟩ σ (isD (.bool (!p.isNone))) := Rd.bin hx hy fun w => by
  simp [eqGuard, binOp, run_equal_pointer_nil w T p (ptrT_spec hT)]
theorem Rd.eqN {x y : Operand} {T e yT n c : Nat} {A : Option Addr} (hx : σ.ev x = some (isD (.slice A n c))) (hy : σ.ev y = some (isD (.slice none 0 0))) (hT : sliceT P T e = true) : Rd P Γ S ⟨dst, .binOp .eql T x y yT, ty, pos, af, gd⟩ σ (isD (.bool A.isNone)) := Rd.bin hx hy fun w => by
  simp [eqGuard, binOp, run_equal_slice_nil w T e A n c (sliceT_spec hT)]
/-! Structs and arrays seen as cells. -/
theorem Ef.boxL {x : Operand} {T : Nat} {ds : List D} {dx : D} {k : Nat} (hx : σ.ev x = some dx) (hl : Le dx (aggD ds)) (hk : dstOk Γ.nt k = true) : Ef P Γ S ⟨some k, .box T x, ty, pos, af, gd⟩ σ (fun σ' => ∃ g, σ' = (σ.mk' g ds).put k (isD (.pointer (some ⟨g, 0, none⟩)))) := by
  intro a w hh K Q hK
  obtain ⟨cs, hv, ha⟩ := hl _ _ _ (ev_spec hh hx)
  have h1 := (hh.box (t := T) ha).put (i := k) (by simpa [dstOk] using hk) (d := isD (.pointer (some ⟨w.heap.size, 0, none⟩))) (v := .pointer (some ⟨w.heap.size, 0, none⟩)) rfl
  have e : (execOp a.eval ⟨some k, .box T x, ty, pos, af, gd⟩).run P w = .ok (.value (.pointer (some ⟨w.heap.size, 0, none⟩))) (w.alloc (.cells cs.toArray T)) := by
    simp [execOp, hv, Instr.box, newVar, newRow, agg_cells]
  unfold Oper.wp
  rw [e]
  exact hK _ _ _ ⟨_, rfl⟩ h1 ((Only.refl S w).alloc _)
instance ones_cells (b : List UInt8) : Ones ((cellsOf b).map isD) := ⟨fun d hd => by
  obtain ⟨v, hv, rfl⟩ := List.mem_map.1 hd
  obtain ⟨x, _, rfl⟩ := List.mem_map.1 hv
  exact fun _ _ _ h => by cases h; rfl⟩
theorem le_g_agg (b : List UInt8) : Le (gD b) (aggD ((cellsOf b).map isD)) := le_is_agg
theorem le_agg_g (b : List UInt8) : Le (aggD ((cellsOf b).map isD)) (gD b) := le_agg_is
/-- A digest is stored over another one. -/
theorem Ef.storeG {x y : Operand} {T g : Nat} (j n : Nat) {b c : List UInt8} (hx : σ.ev x = some (isD (.pointer (some ⟨g, 0, none⟩)))) (hy : σ.ev y = some (gD b)) (hj : σ.bx[j]? = some (.c g ((cellsOf c).map isD))) (hT : sizeT P T n = true) (hb : b.length = n) (hc : c.length = n) (hS : g ∈ S) :
    Ef P Γ S ⟨none, .store T x y, ty, pos, af, gd⟩ σ (fun σ' => σ' = σ.set j ((cellsOf b).map isD)) := by
  intro a w hh K Q hK
  have hyv : a.eval y = .agg (cellsOf b).toArray := ev_spec hh hy
  have hxv : a.eval x = .pointer (some ⟨g, 0, none⟩) := ev_spec hh hx
  obtain ⟨t, cs, hbk, ha⟩ := hh.boxAt hj
  have h1 := ha.length
  simp only [List.length_map, cellsOf_length] at h1
  obtain ⟨h4, h5⟩ := blk_setCells (cellsOf b) 0 cs w hbk (by simp; omega)
  have hth : w.there g 0 (cellsOf b).toArray.size := fun i hi => by
    have hi' : i < b.length := by simpa using hi
    refine ⟨?_, hbk.frozen _⟩
    rw [hbk.cell, List.getElem?_eq_getElem (by omega)]
    rfl
  have hsz : (P.info? T).map (·.size) = some (cellsOf b).toArray.size := by
    unfold sizeT at hT
    rw [beq_iff_eq] at hT
    rw [hT]
    simp [hb]
  have e : (execOp a.eval ⟨none, .store T x y, ty, pos, af, gd⟩).run P w = .ok .skip (w.setCells g 0 (cellsOf b)) := by
    have h6 := run_storeAt_mid (P := P) w g 0 T (cellsOf b).toArray hth hsz (by
      rw [Array.all_eq_true_iff_forall_mem]
      exact fun v hv => cellsOf_one v (by simpa using hv))
    simp [execOp, hxv, hyv, h6]
  unfold Oper.wp
  rw [e]
  have hall : All (σ.L Γ) w ((cellsOf b).map isD) (cs.take 0 ++ (cellsOf b ++ cs.drop (0 + (cellsOf b).length))) := by
    have : cs.drop (0 + (cellsOf b).length) = [] := List.drop_eq_nil_of_le (by simp; omega)
    rw [this]
    simpa using all_is (cellsOf b)
  exact hK _ _ _ rfl (hh.set hj h4 h5 hall) (h5.mono (by intro z hz _; simp at hz; subst hz; exact hS))
theorem Rd.loadG {x : Operand} {T g : Nat} (j n : Nat) {b : List UInt8} (hx : σ.ev x = some (isD (.pointer (some ⟨g, 0, none⟩)))) (hj : σ.bx[j]? = some (.c g ((cellsOf b).map isD))) (hT : rowT P T n = true) (hb : b.length = n) (hS : Ap σ j S) : Rd P Γ S ⟨dst, .load T x, ty, pos, af, gd⟩ σ (gD b) := by
  have h := Rd.loadA (P := P) (Γ := Γ) (dst := dst) (ty := ty) (pos := pos) (af := af) (gd := gd) j n hx hj hT (by simp [hb]) hS
  refine h.le ?_
  have e : (((cellsOf b).map isD).drop 0).take n = (cellsOf b).map isD := by
    rw [List.drop_zero, List.take_of_length_le (by simp [hb])]
  rw [e]
  exact le_agg_g b
/-- a[:], a an array of one's own. -/
theorem Rd.slArr {x : Operand} {T e g n : Nat} (hx : σ.ev x = some (isD (.pointer (some ⟨g, 0, none⟩)))) (hT : arrT P T e n = true) (hs : ((P.info? e).map (·.size)).isSome = true) :
    Rd P Γ S ⟨dst, .slice T x none none none, ty, pos, af, gd⟩ σ (isD (.slice (some ⟨g, 0, none⟩) n n)) := by
  intro a w hh
  have hxv : a.eval x = .pointer (some ⟨g, 0, none⟩) := ev_spec hh hx
  refine ⟨_, rfl, fun w' _ => ?_⟩
  obtain ⟨sz, hsz⟩ := Option.isSome_iff_exists.1 hs
  obtain ⟨inf, hi', hsz⟩ := Option.map_eq_some_iff.1 hsz
  simp [execOp, hxv, Instr.sliceAt, Instr.sureAddr, Instr.sliceBounds, run_underlying (arrT_spec hT), sizeOf, typeInfo, hi', Addr.add]
/-! Where values come from. -/
theorem SrcT.ls {α : Type} {enc : α → List D} {y : Operand} {l : List α} (hy : σ.ev y = some (lsD enc l)) : SrcT Γ σ y enc l := Src.of hy (Le.refl _)
theorem SrcT.le {α : Type} {enc : α → List D} {y : Operand} {l : List α} {dy : D} (hy : σ.ev y = some dy) (hl : Le dy (lsD enc l)) : SrcT Γ σ y enc l := Src.of hy hl
theorem SrcT.b {y : Operand} {b : List UInt8} (hy : σ.ev y = some (bD b)) : SrcT Γ σ y encB b := Src.of hy (le_b_ls b)
theorem SrcT.view {y : Operand} {b : List UInt8} {v : Value} {F : List Nat} (j : Nat) (hy : σ.ev y = some (isD v)) (hj : σ.bx[j]? = some (.r F (viewR v (cellsOf b)))) : SrcT Γ σ y encB b := by
  have := Src.view (Γ := Γ) (σ := σ) (y := y) j hy hj (isView_view v (cellsOf b))
  unfold SrcT
  rw [flat_encB]
  rw [cellsOf_length] at this
  exact this
/-- The bytes of an array of one's own. -/
theorem SrcT.box {y : Operand} {b : List UInt8} {g n : Nat} (j : Nat) (hy : σ.ev y = some (isD (.slice (some ⟨g, 0, none⟩) n n))) (hj : σ.bx[j]? = some (.c g ((cellsOf b).map isD))) (hn : b.length = n) : SrcT Γ σ y encB b := fun a w hh => by
  have hyv : a.eval y = .slice (some ⟨g, 0, none⟩) n n := ev_spec hh hy
  obtain ⟨t, cs, hb, ha⟩ := hh.boxAt hj
  refine ⟨_, n, by rw [hyv, hn], by omega, fun _ => ⟨g, 0, rfl, cs, by rw [flat_encB]; exact ha, fun j hj => ?_⟩⟩
  rw [Nat.zero_add, hb.cell]
theorem SrcT.nil {α : Type} {enc : α → List D} {y : Operand} {c : Nat} {A : Option Addr} (hy : σ.ev y = some (isD (.slice A 0 c))) : SrcT Γ σ y enc [] := fun a w hh => by
  have hyv : a.eval y = .slice A 0 c := ev_spec hh hy
  exact ⟨A, c, hyv, Nat.zero_le _, fun h => by simp at h⟩
/-! Growing. -/
theorem SW.vecN {c : Code} {α : Type} (e sz : Nat) (enc : α → List D) (h : SW P Γ ⟨σ.tm, σ.bx ++ [.r [] (vecT e sz enc none 0 [])]⟩ c Q) : SW P Γ σ c Q := fun a w hh => h a w (vec_nil e sz hh)
theorem SWl.vecN {ops : Array Oper} {l : List Oper} {α : Type} (e sz : Nat) (enc : α → List D) (h : SWl P Γ ops Q l ⟨σ.tm, σ.bx ++ [.r [] (vecT e sz enc none 0 [])]⟩) : SWl P Γ ops Q l σ := fun a w hh => h a w (vec_nil e sz hh)
theorem SWz.vecN {l : List Oper} {tz : Reg.Tz} {α : Type} (e sz : Nat) (enc : α → List D) (h : SWz P Γ l Q S tz ⟨σ.tm, σ.bx ++ [.r [] (vecT e sz enc none 0 [])]⟩) : SWz P Γ l Q S tz σ := fun a w hh => h a w (vec_nil e sz hh)
theorem SW.mapN {c : Code} {κ : Type} (enc : κ → Value) (h : SW P Γ ⟨σ.tm, σ.bx ++ [.r [] (mapR none enc [] [])]⟩ c Q) : SW P Γ σ c Q := fun a w hh => h a w (map_nil enc hh)
theorem SWl.mapN {ops : Array Oper} {l : List Oper} {κ : Type} (enc : κ → Value) (h : SWl P Γ ops Q l ⟨σ.tm, σ.bx ++ [.r [] (mapR none enc [] [])]⟩) : SWl P Γ ops Q l σ := fun a w hh => h a w (map_nil enc hh)
theorem Ef.appT {x y : Operand} {T e k c : Nat} {A : Option Addr} {F : List Nat} {α : Type} {enc : α → List D} {l l' : List α} (j sz bytes : Nat) [Row enc sz] (hx : σ.ev x = some (isD (.slice A l.length c))) (hj : σ.bx[j]? = some (.r F (vecT e sz enc A c l))) (hsrc : SrcT Γ σ y enc l') (hT : sliceT P T e = true) (hE : elT P e sz bytes = true) (hlen : l.length + l'.length ≤ 1099511627776) (hb : bytes ≤ 128) (hS : ∀ g ∈ F, g ∈ S) (hk : dstOk Γ.nt k = true) :
    Ef P Γ S ⟨some k, .call { callee := .builtin .append, args := #[x, y], argTypes := #[T, T] }, ty, pos, af, gd⟩ σ (fun σ' => ∃ A' F' c', σ' = (σ.give [j] [.r F' (vecT e sz enc A' c' (l ++ l'))]).put k (isD (.slice A' (l ++ l').length c'))) := by
  cases l' with
  | nil =>
    intro a w hh K Q hK
    have hxv : a.eval x = .slice A l.length c := ev_spec hh hx
    obtain ⟨B, cy, hyv, hcy, hat⟩ := hsrc a w hh
    obtain ⟨i, z, hI, h1, h2, h3, h4⟩ := elT_spec hE
    obtain ⟨xs, ha, hown, hF⟩ := hh.resAt hj
    have hnc : l.length ≤ c := by
      rcases hown.2 with ⟨hv, hn⟩ | ⟨g, cap, cur, hv, _, hg, hnc, _⟩
      · injection hv with h1 h2 h3; omega
      · injection hv with h1 h2 h3; omega
    have hsub : SubBx σ.bx [j] [.r F (vecT e sz enc A c l)] := ⟨⟨_, hj, LeR.refl _⟩, trivial⟩
    have hfp : fps [Box.r F (vecT e sz enc A c l)] = F := by simp [fps, Box.fp]
    have h5 := (hh.give (w' := w) (post := [.r F (vecT e sz enc A c l)]) hsub (Only.refl _ w) (fun b hb => by
      rw [List.mem_singleton.1 hb]
      refine (vecT e sz enc A c l).less (hh.resAt hj) (fun x hx => ?_)
      rw [hfp] at hx
      rcases List.mem_append.1 hx with hx | hx
      · exact .inl (List.mem_append_left _ (mem_fps.2 ⟨_, List.mem_of_getElem? hj, hx⟩))
      · exact .inl (List.mem_filter.1 hx).1) (by rw [hfp]; exact fp_nodup hh.nd (List.mem_of_getElem? hj)) (fun g hg => .inl hg)).1
    have e2 : (execOp a.eval ⟨some k, .call { callee := .builtin .append, args := #[x, y], argTypes := #[T, T] }, ty, pos, af, gd⟩).run P w = .ok (.value (.slice A l.length c)) w := by
      rw [List.length_nil] at hyv
      cases B with
      | none => cases A <;> simp [execOp, resolve, invoke, builtin, hxv, hyv, Builtin.append_, run_underlying (sliceT_spec hT), sizeOf, typeInfo, hI, Builtin.lenOf, Builtin.firstCells, storeCells, hnc]
      | some p => cases A <;> simp [execOp, resolve, invoke, builtin, hxv, hyv, Builtin.append_, run_underlying (sliceT_spec hT), sizeOf, typeInfo, hI, Builtin.lenOf, Builtin.firstCells, storeCells, loadCells, loadCellsFrom, hnc]
    unfold Oper.wp
    rw [e2]
    have h6 := h5.put (i := k) (by simpa [dstOk] using hk) (d := isD (.slice A l.length c)) (v := .slice A l.length c) rfl
    refine hK _ _ _ ⟨A, F, c, ?_⟩ h6 (Only.refl _ w)
    rw [List.append_nil]
  | cons v l' =>
    have h := Ef.appS (P := P) (Γ := Γ) (S := S) (ty := ty) (pos := pos) (af := af) (gd := gd) (k := k) j sz bytes hx hj hsrc (flat_len (enc := enc) (sz := sz) _) hT hE (by simp) (Row.pos (enc := enc)) hlen hb hS hk
    intro a w hh K Q hK
    refine h a w hh K Q fun σ' a' w' ⟨g, c', hT'⟩ hh' ho => hK σ' a' w' ⟨some ⟨g, 0, none⟩, [g], c', ?_⟩ hh' ho
    rw [hT']
    unfold vecT
    rw [List.length_append, List.flatMap_append]
/-- make([]T, 0, c). -/
theorem Ef.makeT {x y : Operand} {T e k c : Nat} {ci : Int} {α : Type} (enc : α → List D) (sz bytes : Nat) (hx : σ.ev x = some (isD (.int .i64 0))) (hy : σ.ev y = some (isD (.int .i64 ci))) (hT : sliceT P T e = true) (hE : elT P e sz bytes = true) (hc : ci = (c : Int)) (hn : c ≤ 1099511627776) (hb : bytes ≤ 128) (hk : dstOk Γ.nt k = true) :
    Ef P Γ S ⟨some k, .makeSlice T x y, ty, pos, af, gd⟩ σ (fun σ' => ∃ g, σ' = (⟨σ.tm, σ.bx ++ [.r [g] (vecT e sz enc (some ⟨g, 0, none⟩) c [])]⟩ : St).put k (isD (.slice (some ⟨g, 0, none⟩) 0 c))) := Ef.makeV sz bytes hx hy hT hE hc hn hb hk
/-- []T{}. -/
theorem Ef.lit0 {T e k : Nat} {α : Type} (enc : α → List D) (sz bytes : Nat) (hT : sliceT P T e = true) (hE : elT P e sz bytes = true) (hk : dstOk Γ.nt k = true) :
    Ef P Γ S ⟨some k, .buildSlice T 0 #[], ty, pos, af, gd⟩ σ (fun σ' => ∃ g, σ' = (⟨σ.tm, σ.bx ++ [.r [g] (vecT e sz enc (some ⟨g, 0, none⟩) 0 [])]⟩ : St).put k (isD (.slice (some ⟨g, 0, none⟩) 0 0))) := by
  intro a w hh K Q hK
  obtain ⟨i, z, hI, h1, h2, h3, h4⟩ := elT_spec hE
  have e2 : (execOp a.eval ⟨some k, .buildSlice T 0 #[], ty, pos, af, gd⟩).run P w = .ok (.value (.slice (some ⟨w.heap.size, 0, none⟩) 0 0)) (w.alloc (.cells #[] e)) := by
    simp [execOp, Instr.buildSlice, run_underlying (sliceT_spec hT), typeInfo, hI, h3, zeroValue, sizeOf, Instr.fill, newRow]
    have hr : Array.range 0 = #[] := rfl
    simp [hr]
  have h5 := hh.more ((Only.refl [] w).alloc (.cells #[] e)) (b := .r [w.heap.size] (vecT e sz enc (some ⟨w.heap.size, 0, none⟩) 0 [])) ⟨[], trivial, ⟨by simp, .inr ⟨w.heap.size, 0, _, rfl, Nat.zero_le _, heap_alloc_new w _, Nat.zero_le _, Nat.zero_le _, by simp, by simp⟩⟩, rfl⟩ (fun g hg => by rw [List.mem_singleton.1 hg]; exact Nat.le_refl _) (by simp [Box.fp])
  unfold Oper.wp
  rw [e2]
  exact hK _ _ _ ⟨_, rfl⟩ (h5.put (by simpa [dstOk] using hk) rfl) ((Only.refl S w).alloc _)
/-! Let go of. -/
theorem Holds.freezeT (h : Holds Γ σ a w) {j k e sz c : Nat} {A : Option Addr} {F : List Nat} {α : Type} {enc : α → List D} {l : List α} {d' : D} (hj : σ.bx[j]? = some (.r F (vecT e sz enc A c l))) (hk : σ.tm k = some (isD (.slice A l.length c))) (hl : Le (lsD enc l) d') : Holds Γ ((⟨σ.tm, dropAt σ.bx 0 [j]⟩ : St).put k d') a w := by
  have h1 := h.freezeV hj hk
  have h2 := h1.weak (i := k) (d := lsD enc l) (d' := d') (by rw [put_tm, if_pos rfl]) hl
  have e : (((⟨σ.tm, dropAt σ.bx 0 [j]⟩ : St).put k (rwD l.length (l.flatMap enc))).put k d') = ((⟨σ.tm, dropAt σ.bx 0 [j]⟩ : St).put k d') := by
    simp only [St.put]
    congr 1
    funext i
    cases Nat.beq i k <;> rfl
  rw [e] at h2
  exact h2
theorem SW.freezeT {cd : Code} (j k : Nat) {e sz c : Nat} {A : Option Addr} {F : List Nat} {α : Type} {enc : α → List D} {l : List α} {d' : D} (hj : σ.bx[j]? = some (.r F (vecT e sz enc A c l))) (hk : σ.tm k = some (isD (.slice A l.length c))) (hl : Le (lsD enc l) d') (h : SW P Γ ((⟨σ.tm, dropAt σ.bx 0 [j]⟩ : St).put k d') cd Q) : SW P Γ σ cd Q := fun a w hh => h a w (hh.freezeT hj hk hl)
theorem SWl.freezeT {ops : Array Oper} {lo : List Oper} (j k : Nat) {e sz c : Nat} {A : Option Addr} {F : List Nat} {α : Type} {enc : α → List D} {l : List α} {d' : D} (hj : σ.bx[j]? = some (.r F (vecT e sz enc A c l))) (hk : σ.tm k = some (isD (.slice A l.length c))) (hl : Le (lsD enc l) d') (h : SWl P Γ ops Q lo ((⟨σ.tm, dropAt σ.bx 0 [j]⟩ : St).put k d')) : SWl P Γ ops Q lo σ := fun a w hh => h a w (hh.freezeT hj hk hl)
theorem SWz.freezeT {lo : List Oper} {tz : Reg.Tz} (j k : Nat) {e sz c : Nat} {A : Option Addr} {F : List Nat} {α : Type} {enc : α → List D} {l : List α} {d' : D} (hj : σ.bx[j]? = some (.r F (vecT e sz enc A c l))) (hk : σ.tm k = some (isD (.slice A l.length c))) (hl : Le (lsD enc l) d') (h : SWz P Γ lo Q S tz ((⟨σ.tm, dropAt σ.bx 0 [j]⟩ : St).put k d')) : SWz P Γ lo Q S tz σ := fun a w hh => h a w (hh.freezeT hj hk hl)
theorem SN.freezeT (j k : Nat) {e sz c : Nat} {A : Option Addr} {F : List Nat} {α : Type} {enc : α → List D} {l : List α} {d' : D} (hj : σ.bx[j]? = some (.r F (vecT e sz enc A c l))) (hk : σ.tm k = some (isD (.slice A l.length c))) (hl : Le (lsD enc l) d') (h : SN Γ Q ((⟨σ.tm, dropAt σ.bx 0 [j]⟩ : St).put k d')) : SN Γ Q σ := fun a w hh => h a w (hh.freezeT hj hk hl)
/-! Elements. -/
theorem Rd.idxL {x y : Operand} {T e : Nat} {kd : IntKind} {i : Int} {α : Type} {enc : α → List D} {l : List α} {v : α} (sz : Nat) [Row enc sz] (hx : σ.ev x = some (lsD enc l)) (hy : σ.ev y = some (isD (.int kd i))) (hT : sliceT P T e = true) (hs : (P.info? e).map (·.size) = some sz) (h0 : 0 ≤ i) (hv : l[i.toNat]? = some v) :
    Rd P Γ S ⟨dst, .indexAddr T x y, ty, pos, af, gd⟩ σ (paD (enc v)) := by
  have hi := (List.getElem?_eq_some_iff.1 hv).1
  have h := Rd.idxR (P := P) (Γ := Γ) (S := S) (dst := dst) (ty := ty) (pos := pos) (af := af) (gd := gd) sz hx hy hT hs h0 (by omega) (by
    rw [flat_len (enc := enc) (sz := sz)]
    exact Nat.mul_lt_mul_of_pos_right hi (Row.pos (enc := enc)))
  refine h.le ?_
  rw [flat_drop (enc := enc) (sz := sz) l i.toNat v hv]
  rintro L w u ⟨p, hp, ha⟩
  refine ⟨p, hp, fun h0 => ?_⟩
  obtain ⟨g, o, e, hg, hn, cs, h1, h2⟩ := ha (by rw [List.length_append]; omega)
  refine ⟨g, o, e, hg, hn, cs.take (enc v).length, ?_, fun j hj => ?_⟩
  · have := h1.take (enc v).length
    rwa [List.take_left] at this
  · rw [List.length_take] at hj
    rw [h2 j (by omega), List.getElem?_take, if_pos (by omega)]
def elP (A : Option Addr) (k : Nat) : Value := .pointer (A.map fun p => ⟨p.block, p.off + k, p.spot⟩)
theorem vec_some {L F : List Nat} {e sz n c : Nat} {A : Option Addr} {ds : List D} (h : (vecR e sz A n c ds).R L F w) (h0 : 0 < n) : ∃ g cur xs, A = some ⟨g, 0, none⟩ ∧ F = [g] ∧ w.heap[g]? = some (.cells cur e (0, 0)) ∧ n ≤ c ∧ c ≤ maxLen ∧ cur.size = c * sz ∧ cur.toList.take (n * sz) = xs ∧ xs.length = n * sz ∧ All L w ds xs := by
  obtain ⟨xs, ha, ho, hF⟩ := h
  rcases ho.2 with ⟨hv, hn⟩ | ⟨g, cap, cur, hv, _, hg, hnc, hm, hcs, htk⟩
  · omega
  · injection hv with h1 h2 h3
    subst h1 h3
    exact ⟨g, cur, xs, rfl, by rw [hF]; rfl, hg, hnc, hm, hcs, htk, ho.1, ha⟩
theorem Rd.idxT {x y : Operand} {T e c : Nat} {kd : IntKind} {i : Int} {A : Option Addr} {F : List Nat} {α : Type} {enc : α → List D} {l : List α} (j sz : Nat) (hx : σ.ev x = some (isD (.slice A l.length c))) (hj : σ.bx[j]? = some (.r F (vecT e sz enc A c l))) (hy : σ.ev y = some (isD (.int kd i))) (hT : sliceT P T e = true) (hs : (P.info? e).map (·.size) = some sz) (h0 : 0 ≤ i) (hi : i.toNat < l.length) :
    Rd P Γ S ⟨dst, .indexAddr T x y, ty, pos, af, gd⟩ σ (isD (elP A (i.toNat * sz))) := by
  intro a w hh
  have hxv : a.eval x = .slice A l.length c := ev_spec hh hx
  have hyv : a.eval y = .int kd i := ev_spec hh hy
  obtain ⟨g, cur, xs, rfl, _⟩ := vec_some (hh.resAt hj) (by omega)
  obtain ⟨inf, hi', hsz⟩ := Option.map_eq_some_iff.1 hs
  refine ⟨_, rfl, fun w' _ => ?_⟩
  have h1 : i < (l.length : Int) := by omega
  simp [execOp, hxv, hyv, Instr.indexAt, run_underlying (sliceT_spec hT), asIntOf, sizeOf, typeInfo, hi', hsz, elP, Addr.add, h0, h1]
  exact fun h => h.symm
/-- An element of one cell. -/
theorem Rd.loadT1 {x : Operand} {T e c i : Nat} {A : Option Addr} {F : List Nat} {α : Type} {enc : α → List D} {l : List α} {v : α} (j : Nat) [Row enc 1] (hx : σ.ev x = some (isD (elP A (i * 1)))) (hj : σ.bx[j]? = some (.r F (vecT e 1 enc A c l))) (hT : plainT P T = true) (hv : l[i]? = some v) (hd : (enc v)[0]? = some d) (hS : Ap σ j S) : Rd P Γ S ⟨dst, .load T x, ty, pos, af, gd⟩ σ d := by
  intro a w hh
  have hxv : a.eval x = elP A (i * 1) := ev_spec hh hx
  have hi := (List.getElem?_eq_some_iff.1 hv).1
  have hR := hh.resAt hj
  obtain ⟨g, cur, xs, rfl, rfl, hg, hnc, hm, hcs, htk, hxl, ha⟩ := vec_some hR (by omega)
  obtain ⟨u, h1, h2⟩ := ha.at (flat_at (sz := 1) hv hd)
  refine ⟨u, h2, fun w' ho => ?_⟩
  have hg' : w'.heap[g]? = some (.cells cur e (0, 0)) := (ho.block g (Array.getElem?_eq_some_iff.1 hg).1 (fun hm => hS.spec hh.nd hj g hm (List.mem_singleton.2 rfl))).trans hg
  have h3 : w'.cell? ⟨g, i * 1, none⟩ = some u := by
    rw [← htk, List.getElem?_take] at h1
    split at h1
    · simpa [World.cell?, hg'] using h1
    · cases h1
  have h4 := run_load_plain (P := P) hT h3
  simp only [execOp, hxv, elP, Option.map_some, Nat.zero_add, h4, Sem.run_bind, Result.andThen_ok, Sem.run_pure]
/-! Results. -/
theorem Rs.none {fn : Func} (h : fn.results = #[]) : Rs P Γ fn σ (isD (.tuple #[])) := by
  intro a w hh
  exact ⟨_, by simp [results, h], rfl⟩
/-- What lies in a cell, seen otherwise. -/
theorem ResV.cellG {p T n : Nat} (j : Nat) {g : Nat} {b : List UInt8} (h1 : σ.tm p = some (isD (.pointer (some ⟨g, 0, none⟩)))) (h2 : σ.bx[j]? = some (.c g ((cellsOf b).map isD))) (h3 : rowT P T n = true) (hb : b.length = n) : ResV σ P (.cell p T) (aggD ((cellsOf b).map isD)) := ⟨j, g, _, h1, h2, .inl ⟨by simp only [List.length_map, cellsOf_length, hb]; exact h3, rfl⟩⟩
end
/-! Blocks that are lent. -/
/-- A slice of this length. -/
def lenD (n : Nat) : D := ⟨fun _ _ v => ∃ A c, v = .slice A n c, fun h _ _ => h, fun h _ => h⟩
instance (n : Nat) : One (lenD n) := ⟨fun _ _ _ h => by obtain ⟨A, c, rfl⟩ := h; rfl⟩
theorem le_is_len {A : Option Addr} {n c : Nat} : Le (isD (.slice A n c)) (lenD n) := fun _ _ _ h => ⟨A, c, h⟩
theorem le_rw_len {n : Nat} {ds : List D} : Le (rwD n ds) (lenD n) := fun _ _ _ ⟨A, c, h, _⟩ => ⟨A, c, h⟩
theorem le_b_len {b : List UInt8} : Le (bD b) (lenD b.length) := fun _ _ _ ⟨A, c, h, _⟩ => ⟨A, c, by rw [h, cellsOf_length]⟩
section
variable {P : Program} {Γ : Cx} {σ : St} {S : List Nat} {dst : Option Tmp} {ty : TypeId} {pos : String} {af : Array Edge} {gd : Option (Nat × Bool)} {Q : Exit → Act → World → Prop}
theorem Rd.lenN {x : Operand} {T e n : Nat} (hx : σ.ev x = some (lenD n)) (hT : sliceT P T e = true) : Rd P Γ S ⟨dst, .call { callee := .builtin .len, args := #[x], argTypes := #[T] }, ty, pos, af, gd⟩ σ (isD (.int .i64 (n : Int))) := by
  intro a w hh
  obtain ⟨A, c, hv⟩ := ev_spec hh hx
  refine ⟨_, rfl, fun w' _ => ?_⟩
  simp [execOp, resolve, invoke, builtin, hv, Builtin.len_, run_underlying (sliceT_spec hT), goInt]
/-- A slice that is nil is empty. -/
theorem SW.viewN {c : Code} {A : Option Addr} {n cp : Nat} {b : List UInt8} {F : List Nat} (j : Nat) (hj : σ.bx[j]? = some (.r F (viewR (.slice A n cp) (cellsOf b)))) (hA : A.isNone = true) (h : b = [] → SW P Γ σ c Q) : SW P Γ σ c Q := fun a w hh => by
  refine h ?_ a w hh
  obtain ⟨⟨B, c', hv, hc, hr, _⟩, _⟩ := hh.resAt hj
  cases b with
  | nil => rfl
  | cons x b =>
    obtain ⟨g, o, e, _⟩ := hr (by simp)
    injection hv with h1
    rw [h1, e] at hA
    cases hA
end
/-! Maps by a function. -/
section
variable {κ : Type} [DecidableEq κ] {enc : κ → Value} {P : Program} {Γ : Cx} {σ : St} {S : List Nat} {dst : Option Tmp} {ty : TypeId} {pos : String} {af : Array Edge} {gd : Option (Nat × Bool)} {d : D}
abbrev mapF (M : Option Nat) {κ : Type} (enc : κ → Value) (ks : List κ) (f : κ → D) : Res := mapR M enc ks (ks.map f)
theorem idx_mem {k : κ} : ∀ {ks : List κ}, k ∈ ks → ∃ i, ks.idxOf? k = some i ∧ ks[i]? = some k
  | [], h => by simp at h
  | a :: ks, h => by
    by_cases e : a = k
    · subst e
      exact ⟨0, by simp [List.idxOf?_cons], rfl⟩
    · have hm : k ∈ ks := by
        rcases List.mem_cons.1 h with h | h
        · exact absurd h.symm e
        · exact h
      obtain ⟨i, h1, h2⟩ := idx_mem hm
      have hb : (a == k) = false := by simpa using e
      exact ⟨i + 1, by simp [List.idxOf?_cons, hb, h1], by simpa using h2⟩
theorem idx_none {k : κ} {ks : List κ} (h : k ∉ ks) : ks.idxOf? k = none := by
  cases hx : ks.idxOf? k with
  | none => rfl
  | some i =>
    obtain ⟨h1, h2, _⟩ := List.idxOf?_eq_some_iff.1 hx
    exact absurd (by rw [← h2]; exact List.getElem_mem _) h
theorem Rd.lookF {x y : Operand} {T kt et : Nat} {M : Option Nat} {F : List Nat} {k : κ} {ks : List κ} {f : κ → D} {dk : D} {ok : Bool} (j : Nat) (hx : σ.ev x = some (isD (.map M))) (hj : σ.bx[j]? = some (.r F (mapF M enc ks f))) (hy : σ.ev y = some dk) (hk : Le dk (isD (enc k))) (hT : mapT P T kt et = true) (hok : KeyOk P kt enc k ks) (hm : k ∈ ks) (hS : Ap σ j S) :
    Rd P Γ S ⟨dst, .lookup T x y ok, ty, pos, af, gd⟩ σ (cond ok (tupD [f k, isD (.bool true)]) (f k)) := by
  obtain ⟨i, h1, h2⟩ := idx_mem hm
  exact Rd.look j i hx hj hy hk hT hok h1 (by rw [List.getElem?_map, h2]; rfl) hS
omit [DecidableEq κ] in
theorem LeR.map {M : Option Nat} {ks : List κ} {ds es : List D} (h : LeAll ds es) : LeR (mapR M enc ks ds) (mapR M enc ks es) := fun L F w ⟨m, h1, h2, h3⟩ => ⟨m, h1, h2, h.all h3⟩
omit [DecidableEq κ] in
theorem LeAll.append : ∀ {ds es ds' es' : List D}, LeAll ds es → LeAll ds' es' → LeAll (ds ++ ds') (es ++ es')
  | [], [], _, _, _, h => h
  | _ :: _, _ :: _, _, _, h, k => ⟨h.1, LeAll.append h.2 k⟩
/-- m[k] = v, a new key. -/
theorem Ef.mapNewF {x y z : Operand} {T kt et g : Nat} {F : List Nat} {k : κ} {ks : List κ} {f : κ → D} {dk dv : D} (j : Nat) (hx : σ.ev x = some (isD (.map (some g)))) (hj : σ.bx[j]? = some (.r F (mapF (some g) enc ks f))) (hy : σ.ev y = some dk) (hk : Le dk (isD (enc k))) (hz : σ.ev z = some dv) (hv : dv = f k) (hT : mapT P T kt et = true) (hok : KeyOk P kt enc k ks) (hm : k ∉ ks) (hS : ∀ g ∈ F, g ∈ S) :
    Ef P Γ S ⟨none, .mapUpdate T x y z, ty, pos, af, gd⟩ σ (fun σ' => σ' = σ.give [j] [.r F (mapF (some g) enc (ks ++ [k]) f)]) := by
  have h := Ef.mapNew (P := P) (Γ := Γ) (S := S) (ty := ty) (pos := pos) (af := af) (gd := gd) j hx hj hy hk hz hT hok (idx_none hm) hS
  intro a w hh K Q hK
  refine h a w hh K Q fun σ' a' w' hT' hh' ho => hK σ' a' w' ?_ hh' ho
  show σ' = _
  rw [hT', hv]
  unfold mapF
  rw [List.map_append]
  rfl
omit [DecidableEq κ] in
theorem Ef.makeMapF {T k : Nat} (f : κ → D) (hk : dstOk Γ.nt k = true) : Ef P Γ S ⟨some k, .makeMap T none, ty, pos, af, gd⟩ σ (fun σ' => ∃ g, σ' = (⟨σ.tm, σ.bx ++ [.r [g] (mapF (some g) enc [] f)]⟩ : St).put k (isD (.map (some g)))) := Ef.makeMap hk
end
end Sx
end Go.Proofs.YtonjpfpdpfonnaaDoor
namespace Go.Proofs.YtonjpfpdpfonnaaDoor
open Go.RowKit
namespace Sx
/-- Known apart from all blocks below n, too. -/
def nwD (n : Nat) (d : D) : D where
  R L w v := ∀ L', (∀ x ∈ L', x < n ∨ x ∈ L) → d.R L' w v
  keep := fun {L S w w' v} h ho hS L' hL => by
    have h1 := h (L' ++ S) (fun x hx => by
      rcases List.mem_append.1 hx with hx | hx
      · exact hL x hx
      · exact .inr (hS x hx))
    exact d.less (d.keep h1 ho (fun x hx => List.mem_append_right _ hx)) (fun x hx => .inl (List.mem_append_left _ hx))
  less := fun {L L2 w v} h hL L' hL' => by
    classical
    have h1 := h (L'.filter (fun x => decide (x < n ∨ x ∈ L))) (fun x hx => by simpa using (List.mem_filter.1 hx).2)
    refine d.less h1 (fun x hx => ?_)
    rcases hL' x hx with h2 | h2
    · exact .inl (List.mem_filter.2 ⟨hx, by simp [h2]⟩)
    · rcases hL x h2 with h3 | h3
      · exact .inl (List.mem_filter.2 ⟨hx, by simp [h3]⟩)
      · exact .inr h3
theorem le_nw {n : Nat} {d : D} : Le (nwD n d) d := fun L _ _ h => h L (fun _ hx => .inr hx)
theorem le_nw_is {n : Nat} {x : Value} : Le (isD x) (nwD n (isD x)) := fun _ _ _ h _ _ => h
theorem le_nw_mono {n m : Nat} {d d' : D} (h : n ≤ m) (hd : Le d d') : Le (nwD m d) (nwD n d') := fun L w v hv L' hL => hd _ _ _ (hv L' (fun x hx => by
  rcases hL x hx with h1 | h1
  · exact .inl (by omega)
  · exact .inr h1))
instance (n : Nat) (d : D) [o : One d] : One (nwD n d) := ⟨fun L w v h => o.h _ _ _ (le_nw _ _ _ h)⟩
theorem all_nw {L L' : List Nat} {w : World} {n : Nat} (hL : ∀ x ∈ L', x < n ∨ x ∈ L) : ∀ {ds : List D} {cs : List Value}, All L w (ds.map (nwD n)) cs → All L' w ds cs
  | [], [], _ => trivial
  | d :: ds, c :: cs, h => ⟨h.1 L' hL, all_nw hL h.2⟩
theorem le_nw_agg {n : Nat} {ds es : List D} (h : LeAll ds (es.map (nwD n))) : Le (aggD ds) (nwD n (aggD es)) := fun _ _ _ ⟨cs, hv, ha⟩ _ hL => ⟨cs, hv, all_nw hL (h.all ha)⟩
theorem le_nw_tup {n : Nat} {ds es : List D} (h : LeAll ds (es.map (nwD n))) : Le (tupD ds) (nwD n (tupD es)) := fun _ _ _ ⟨cs, hv, ha⟩ _ hL => ⟨cs, hv, all_nw hL (h.all ha)⟩
/-- A function that reads what it is shown; what it returns is new. -/
structure ConN (P : Program) (f : FuncId) (ds : List D) (d : D) : Prop where
  en : enters P f
  go : ∀ (L : List Nat) (w : World) (vs : List Value), (∀ g ∈ L, g < w.heap.size) → glob.R w → All L w ds vs → Calls P f vs.toArray w fun e w' => ∃ v, e = .returned v ∧ (nwD w.heap.size d).R L w' v ∧ Only [] w w'
section
variable {P : Program} {Γ : Cx} {σ : St} {S : List Nat} {dst : Option Tmp} {ty : TypeId} {pos : String} {af : Array Edge} {gd : Option (Nat × Bool)} {d : D} {Q : Exit → Act → World → Prop} {a : Act} {w : World}
theorem con_ofN {f : FuncId} {fn : Func} {c : Code} {ds : List D} {d : D} (hf : P.funcs[f]? = some fn) (hn : (fn.name == "runtime.NumGoroutine") = false) (hb : fn.body = some c) (hlen : Nat.ble ds.length fn.ntmps = true)
    (h : ∀ (base : List Nat) (w0 : World), SW P ⟨fn.ntmps, base, w0, [], []⟩ (St.of (inits 0 ds) []) c (bodyPost P fn fun e w' => ∃ v, e = .returned v ∧ (nwD w0.heap.size d).R base w' v ∧ Only [] w0 w')) : ConN P f ds d := by
  refine ⟨enters_of hf hn (by rw [hb]; rfl), fun L w vs hL hG ha => ?_⟩
  refine calls_of_wp hf hb (h L w _ _ ?_)
  have hl := ha.length
  have hle : ds.length ≤ fn.ntmps := by simpa using hlen
  refine ⟨rfl, by simp [hl]; omega, fun i e hi => ?_, fun b hb => by simp [St.of] at hb, by simp [St.of, fps], by simp [St.of, fps], Only.refl _ _, hL, by simp, hG, by simp⟩
  have := inits_spec (pre := []) (post := List.replicate (fn.ntmps - vs.length) undef) ha rfl i e hi
  have e1 : vs.toArray ++ Array.replicate (fn.ntmps - vs.toArray.size) undef = ([] ++ vs ++ List.replicate (fn.ntmps - vs.length) undef).toArray := by
    apply Array.ext'
    simp
  rw [e1]
  simpa [St.L, St.of, fps] using this
theorem ConN.con {f : FuncId} {ds : List D} {d : D} (h : ConN P f ds d) : Con P f ds d :=
  ⟨h.en, fun L w vs hL hG ha => (h.go L w vs hL hG ha).mono fun _ _ ⟨v, hv, hd, ho⟩ => ⟨v, hv, le_nw _ _ _ hd, ho⟩⟩
theorem ConN.mono {f : FuncId} {ds es : List D} {d e : D} (h : ConN P f ds d) (h1 : LeAll es ds) (h2 : Le d e) : ConN P f es e :=
  ⟨h.en, fun L w vs hL hG ha => (h.go L w vs hL hG (h1.all ha)).mono fun _ _ ⟨v, hv, hd, ho⟩ => ⟨v, hv, le_nw_mono (Nat.le_refl _) h2 _ _ _ hd, ho⟩⟩
/-- Lists of blocks apart from the boxes js. -/
def Off (Γ : Cx) (σ : St) (js : List Nat) (L' : List Nat) : Prop := (∀ x ∈ L', x ∈ σ.L Γ) ∧ ∀ j ∈ js, ∀ b, σ.bx[j]? = some b → ∀ x ∈ b.fp, x ∉ L'
/-- What is shown of the boxes js, to one that does not change them. -/
def Sees (Γ : Cx) (σ : St) (js : List Nat) (d d' : D) : Prop := ∀ a w v L', Holds Γ σ a w → Off Γ σ js L' → d.R (σ.L Γ) w v → d'.R L' w v
def SeesAll (Γ : Cx) (σ : St) (js : List Nat) : List D → List D → Prop
  | [], [] => True
  | d :: ds, e :: es => Sees Γ σ js d e ∧ SeesAll Γ σ js ds es
  | _, _ => False
theorem SeesAll.all {js L' : List Nat} (hh : Holds Γ σ a w) (ho : Off Γ σ js L') : ∀ {ds es : List D} {vs : List Value}, SeesAll Γ σ js ds es → All (σ.L Γ) w ds vs → All L' w es vs
  | [], [], [], _, _ => trivial
  | _ :: _, _ :: _, _ :: _, h, k => ⟨h.1 a w _ _ hh ho k.1, SeesAll.all hh ho h.2 k.2⟩
theorem sees_le {js : List Nat} {d d' : D} (h : Le d d') : Sees Γ σ js d d' := fun a w v L' _ ho hd => d'.less (h _ _ _ hd) (fun x hx => .inl (ho.1 x hx))
theorem sees_agg {js : List Nat} {ds es : List D} (h : SeesAll Γ σ js ds es) : Sees Γ σ js (aggD ds) (aggD es) := fun a w v L' hh ho ⟨cs, hv, ha⟩ => ⟨cs, hv, h.all hh ho ha⟩
/-- A slice of one's own is shown. -/
theorem sees_vec {js : List Nat} {α : Type} {enc : α → List D} {l : List α} {F : List Nat} {e sz c : Nat} {A : Option Addr} (j : Nat) (hj : σ.bx[j]? = some (.r F (vecT e sz enc A c l))) (hm : j ∈ js) : Sees Γ σ js (isD (.slice A l.length c)) (lsD enc l) := fun a w v L' hh ho hd => by
  obtain ⟨h1, h2⟩ := own_at (hh.resAt hj) (L' := L') (fun x hx => .inl (ho.1 x hx)) (fun g hg => ho.2 j hm _ hj g hg)
  exact ⟨A, c, hd, h1, h2⟩
theorem sees_vecB {js : List Nat} {b : List UInt8} {F : List Nat} {e c : Nat} {A : Option Addr} (j : Nat) (hj : σ.bx[j]? = some (.r F (vecT e 1 encB A c b))) (hm : j ∈ js) : Sees Γ σ js (isD (.slice A b.length c)) (bD b) := fun a w v L' hh ho hd => le_ls_b b _ _ _ (sees_vec j hj hm a w v L' hh ho hd)
theorem sees_view {js : List Nat} {R : Res} {xs : List Value} {u : Value} {F : List Nat} (j : Nat) (hj : σ.bx[j]? = some (.r F R)) (hR : IsView R u xs) (hm : j ∈ js) : Sees Γ σ js (isD u) (slD xs) := fun a w v L' hh ho hd => by
  obtain ⟨A, c, hv, hc, hr, hn⟩ := hR _ _ _ (hh.resAt hj)
  refine ⟨A, c, ?_, hc, hr, fun h0 p hp hx => ?_⟩
  · exact (show v = u from hd).trans hv
  · rcases hn h0 p hp with h1 | h1
    · exact ho.2 j hm _ hj _ h1 hx
    · exact h1 (ho.1 _ hx)
/-- A block of one's own is shown. -/
theorem sees_box {js : List Nat} {g : Nat} {ds es : List D} (j : Nat) (hj : σ.bx[j]? = some (.c g ds)) (hm : j ∈ js) (h : SeesAll Γ σ js ds es) : Sees Γ σ js (isD (.pointer (some ⟨g, 0, none⟩))) (paD es) := fun a w v L' hh ho hd => by
  obtain ⟨t, cs, hb, ha⟩ := hh.boxAt hj
  refine ⟨⟨g, 0, none⟩, hd, fun _ => ⟨g, 0, rfl, hb.lt, ho.2 j hm _ hj g (List.mem_singleton.2 rfl), cs, h.all hh ho ha, fun i hi => ?_⟩⟩
  rw [Nat.zero_add, hb.cell]
theorem sees_digest {js : List Nat} {g n : Nat} {b : List UInt8} (j : Nat) (hj : σ.bx[j]? = some (.c g ((cellsOf b).map isD))) (hm : j ∈ js) (hn : b.length = n) : Sees Γ σ js (isD (.slice (some ⟨g, 0, none⟩) n n)) (bD b) := fun a w v L' hh ho hd => by
  obtain ⟨t, cs, hb, ha⟩ := hh.boxAt hj
  have hc := all_isD ha
  subst hc
  refine ⟨some ⟨g, 0, none⟩, n, by rw [cellsOf_length, hn]; exact hd, by rw [cellsOf_length]; omega, fun _ => ⟨g, 0, rfl, hb.lt, fun i hi => by rw [Nat.zero_add, hb.cell]⟩, fun _ p hp => ?_⟩
  injection hp with hp
  subst hp
  exact ho.2 j hm _ hj g (List.mem_singleton.2 rfl)
/-- A map that is known. -/
def mpD {κ : Type} (enc : κ → Value) (ks : List κ) (f : κ → D) : D where
  R L w v := ∃ (M : Option Nat) (es : Array MapEntry) (F : List Nat), v = .map M ∧ MapAt w M es F ∧ (∀ g ∈ F, g ∉ L) ∧ es.toList.map (fun e : MapEntry => e.key) = ks.map enc ∧ All L w (ks.map f) (es.toList.map (fun e : MapEntry => e.val))
  keep := fun ⟨M, es, F, hv, hm, hF, hk, ha⟩ ho hS => ⟨M, es, F, hv, hm.keep ho (fun x hx hf => hF x hf (hS x hx)), hF, hk, ha.keep ho hS⟩
  less := fun ⟨M, es, F, hv, hm, hF, hk, ha⟩ hL => ⟨M, es, F, hv, hm, fun g hg hx => by
    rcases hL g hx with h | h
    · exact hF g hg h
    · have := hm.lt g hg
      omega, hk, ha.less hL⟩
instance {κ : Type} (enc : κ → Value) (ks : List κ) (f : κ → D) : One (mpD enc ks f) := ⟨fun _ _ _ h => by obtain ⟨M, es, F, rfl, _⟩ := h; rfl⟩
theorem sees_map {js : List Nat} {κ : Type} {enc : κ → Value} {M : Option Nat} {ks : List κ} {f : κ → D} {F : List Nat} (j : Nat) (hj : σ.bx[j]? = some (.r F (mapF M enc ks f))) (hm : j ∈ js) : Sees Γ σ js (isD (.map M)) (mpD enc ks f) := fun a w v L' hh ho hd => by
  obtain ⟨es, h1, h2, h3⟩ := hh.resAt hj
  exact ⟨M, es, F, hd, h1, fun g hg => ho.2 j hm _ hj g hg, h2, h3.less (fun x hx => .inl (ho.1 x hx))⟩
theorem Rd.lookP {κ : Type} [DecidableEq κ] {enc : κ → Value} {x y : Operand} {T kt et : Nat} {k : κ} {ks : List κ} {f : κ → D} {dk : D} {ok : Bool} (hx : σ.ev x = some (mpD enc ks f)) (hy : σ.ev y = some dk) (hk : Le dk (isD (enc k))) (hT : mapT P T kt et = true) (hok : KeyOk P kt enc k ks) (hm : k ∈ ks) (hS : ∀ s ∈ S, s ∈ σ.L Γ) :
    Rd P Γ S ⟨dst, .lookup T x y ok, ty, pos, af, gd⟩ σ (cond ok (tupD [f k, isD (.bool true)]) (f k)) := by
  intro a w hh
  obtain ⟨M, es, F, hxv, hma, hF, hks, ha⟩ := ev_spec hh hx
  have hyv : a.eval y = enc k := hk _ _ _ (ev_spec hh hy)
  obtain ⟨i, h1, h2⟩ := idx_mem hm
  obtain ⟨v, h3, h4⟩ := ha.at (show (ks.map f)[i]? = some (f k) by rw [List.getElem?_map, h2]; rfl)
  obtain ⟨e, he, rfl⟩ : ∃ e, es.toList[i]? = some e ∧ e.val = v := by
    rw [List.getElem?_map] at h3
    obtain ⟨e, h5, h6⟩ := Option.map_eq_some_iff.1 h3
    exact ⟨e, h5, h6⟩
  refine ⟨if ok then .tuple #[e.val, .bool true] else e.val, ?_, fun w' ho => ?_⟩
  · cases ok
    · exact h4
    · exact ⟨[_, _], rfl, h4, rfl, trivial⟩
  · simp only [execOp, hxv, hyv, Sem.run_bind, run_lookup hT (hma.keep ho (fun x hx hf => hF x hf (hS x hx))) hks hok ok h1 he, Result.andThen_ok, Sem.run_pure]
theorem Rd.lookPN {κ : Type} [DecidableEq κ] {enc : κ → Value} {x y : Operand} {T kt et : Nat} {k : κ} {z : Value} {ks : List κ} {f : κ → D} {dk : D} {ok : Bool} (hx : σ.ev x = some (mpD enc ks f)) (hy : σ.ev y = some dk) (hk : Le dk (isD (enc k))) (hT : mapT P T kt et = true) (hz : (P.info? et).bind (·.zero) = some z) (hok : KeyOk P kt enc k ks) (hm : k ∉ ks) (hS : ∀ s ∈ S, s ∈ σ.L Γ) :
    Rd P Γ S ⟨dst, .lookup T x y ok, ty, pos, af, gd⟩ σ (cond ok (tupD [isD z, isD (.bool false)]) (isD z)) := by
  intro a w hh
  obtain ⟨M, es, F, hxv, hma, hF, hks, ha⟩ := ev_spec hh hx
  have hyv : a.eval y = enc k := hk _ _ _ (ev_spec hh hy)
  refine ⟨if ok then .tuple #[z, .bool false] else z, ?_, fun w' ho => ?_⟩
  · cases ok
    · rfl
    · exact ⟨[_, _], rfl, rfl, rfl, trivial⟩
  · simp only [execOp, hxv, hyv, Sem.run_bind, run_lookup_no hT hz (hma.keep ho (fun x hx hf => hF x hf (hS x hx))) hks hok ok (idx_none hm), Result.andThen_ok, Sem.run_pure]
/-! Addresses that are known are not nil. -/
theorem Rd.nilCheckP {x : Operand} {ds : List D} (hx : σ.ev x = some (paD ds)) : Rd P Γ S ⟨dst, .nilCheck x, ty, pos, af, gd⟩ σ (paD ds) := by
  intro a w hh
  have h := ev_spec hh hx
  have h' := h
  obtain ⟨p, hv, _⟩ := h
  exact ⟨_, h', fun w' _ => by simp [execOp, hv]⟩
theorem Rd.eqPA {x y : Operand} {T yT : Nat} {ds : List D} (hx : σ.ev x = some (paD ds)) (hy : σ.ev y = some (isD (.pointer none))) (hT : ptrT P T = true) : Rd P Γ S ⟨dst, .binOp .eql T x y yT, ty, pos, af, gd⟩ σ (isD (.bool false)) := by
  intro a w hh
  obtain ⟨p, hv, _⟩ := ev_spec hh hx
  have hyv : a.eval y = .pointer none := ev_spec hh hy
  refine ⟨_, rfl, fun w' _ => ?_⟩
  simp [execOp, hv, hyv, eqGuard, binOp, run_equal_pointer_nil w' T (some p) (ptrT_spec hT)]
/-! Calls. -/
theorem upon_N {f : FuncId} {vs : List Value} {ad : List D} {es : List D} (hcon : ConN P f ad d) (hh : Holds Γ σ a w) {js : List Nat} (hs : SeesAll Γ σ js es ad) (hall : All (σ.L Γ) w es vs) :
    Calls P f vs.toArray w fun e w' => ∃ v, e = .returned v ∧ Holds Γ σ a w' ∧ (nwD Γ.w0.heap.size d).R (σ.L Γ) w' v ∧ Only [] w w' := by
  classical
  have ho : Off Γ σ js ((σ.L Γ).filter (fun x => decide (∀ j ∈ js, ∀ b, σ.bx[j]? = some b → x ∉ b.fp))) := ⟨fun x hx => (List.mem_filter.1 hx).1, fun j hj b hb x hx hm => by
    have := (List.mem_filter.1 hm).2
    simp only [decide_eq_true_eq] at this
    exact this j hj b hb hx⟩
  refine (hcon.go _ w vs (fun g hg => hh.lt g (ho.1 g hg)) hh.gl (hs.all hh ho hall)).mono ?_
  rintro e w' ⟨v, rfl, hd, hO⟩
  refine ⟨v, rfl, hh.keep hO, fun L' hL' => ?_, hO⟩
  refine hd L' (fun x hx => ?_)
  rcases hL' x hx with h | h
  · exact .inl (Nat.lt_of_lt_of_le h hh.on.size)
  · exact .inl (hh.lt x h)
theorem Ef.callN {f : FuncId} {args : Array Operand} {aT : Array TypeId} {ad es : List D} {k : Nat} (js : List Nat) (hcon : ConN P f ad d) (he : σ.evs args.toList = some es) (hs : SeesAll Γ σ js es ad) (hk : dstOk Γ.nt k = true) :
    Ef P Γ S ⟨some k, .call { callee := .value (.func f), args := args, argTypes := aT }, ty, pos, af, gd⟩ σ (fun σ' => σ' = σ.put k d) := by
  intro a w hh K Q hK
  have hall := evs_spec hh he
  unfold Oper.wp
  rw [run_callV (cap := []) hcon.en (show a.eval (.func f) = .func (.func f) #[] ([] : List Value).toArray from rfl), List.append_nil]
  simp only [Oper.upon]
  refine (upon_N hcon hh hs hall).mono ?_
  rintro r w' ⟨v, rfl, h1, h2, ho⟩
  exact hK _ _ _ rfl (h1.put (by simpa [dstOk] using hk) (le_nw _ _ _ h2)) (ho.mono (by simp))
/-- What it returns is known to be new. -/
theorem Ef.callNN {f : FuncId} {args : Array Operand} {aT : Array TypeId} {ad es : List D} {k : Nat} (js : List Nat) (hcon : ConN P f ad d) (he : σ.evs args.toList = some es) (hs : SeesAll Γ σ js es ad) (hk : dstOk Γ.nt k = true) :
    Ef P Γ S ⟨some k, .call { callee := .value (.func f), args := args, argTypes := aT }, ty, pos, af, gd⟩ σ (fun σ' => σ' = σ.put k (nwD Γ.w0.heap.size d)) := by
  intro a w hh K Q hK
  have hall := evs_spec hh he
  unfold Oper.wp
  rw [run_callV (cap := []) hcon.en (show a.eval (.func f) = .func (.func f) #[] ([] : List Value).toArray from rfl), List.append_nil]
  simp only [Oper.upon]
  refine (upon_N hcon hh hs hall).mono ?_
  rintro r w' ⟨v, rfl, h1, h2, ho⟩
  exact hK _ _ _ rfl (h1.put (by simpa [dstOk] using hk) h2) (ho.mono (by simp))
theorem all_nw' {L : List Nat} {w : World} {n : Nat} : ∀ {ds : List D} {cs : List Value}, (∀ L', (∀ x ∈ L', x < n ∨ x ∈ L) → All L' w ds cs) → All L w (ds.map (nwD n)) cs
  | [], [], _ => trivial
  | [], _ :: _, h => (h L (fun _ hx => .inr hx)).elim
  | _ :: _, [], h => (h L (fun _ hx => .inr hx)).elim
  | _ :: _, _ :: _, h => ⟨fun L' hL => (h L' hL).1, all_nw' (fun L' hL => (h L' hL).2)⟩
theorem le_nw_aggD {n : Nat} {ds : List D} : Le (nwD n (aggD ds)) (aggD (ds.map (nwD n))) := fun L w v h => by
  obtain ⟨cs, hv, _⟩ := h L (fun _ hx => .inr hx)
  refine ⟨cs, hv, all_nw' (fun L' hL => ?_)⟩
  obtain ⟨cs', hv', ha⟩ := h L' hL
  rw [hv] at hv'
  injection hv' with h1
  have : cs = cs' := by simpa using congrArg Array.toList h1
  rw [this]
  exact ha
theorem Ef.callNL {f : FuncId} {args : Array Operand} {aT : Array TypeId} {ad es : List D} {k : Nat} {d' : D} (js : List Nat) (hcon : ConN P f ad d) (he : σ.evs args.toList = some es) (hs : SeesAll Γ σ js es ad) (hl : Le (nwD Γ.w0.heap.size d) d') (hk : dstOk Γ.nt k = true) :
    Ef P Γ S ⟨some k, .call { callee := .value (.func f), args := args, argTypes := aT }, ty, pos, af, gd⟩ σ (fun σ' => σ' = σ.put k d') := by
  intro a w hh K Q hK
  have hall := evs_spec hh he
  unfold Oper.wp
  rw [run_callV (cap := []) hcon.en (show a.eval (.func f) = .func (.func f) #[] ([] : List Value).toArray from rfl), List.append_nil]
  simp only [Oper.upon]
  refine (upon_N hcon hh hs hall).mono ?_
  rintro r w' ⟨v, rfl, h1, h2, ho⟩
  exact hK _ _ _ rfl (h1.put (by simpa [dstOk] using hk) (hl _ _ _ h2)) (ho.mono (by simp))
/-! A slice that is known, by its parts. -/
theorem Holds.lookS (h : Holds Γ σ a w) {k : Nat} {xs : List Value} (hk : σ.tm k = some (slD xs)) : ∃ A c, Holds Γ ((⟨σ.tm, σ.bx ++ [.r [] (viewR (.slice A xs.length c) xs)]⟩ : St).put k (isD (.slice A xs.length c))) a w := by
  obtain ⟨A, c, hv, hc, hr, ha⟩ := h.tm k _ hk
  refine ⟨A, c, ?_⟩
  have h1 := h.more (Only.refl [] w) (b := .r [] (viewR (.slice A xs.length c) xs)) ⟨⟨A, c, rfl, hc, hr, fun h0 p hp => .inr (ha h0 p hp)⟩, by simp⟩ (by simp [Box.fp]) (by simp [Box.fp])
  exact h1.learn hv
theorem SW.lookB {c : Code} (k : Nat) {b : List UInt8} (hk : σ.tm k = some (bD b)) (h : ∀ A cp, SW P Γ ((⟨σ.tm, σ.bx ++ [.r [] (viewR (.slice A b.length cp) (cellsOf b))]⟩ : St).put k (isD (.slice A b.length cp))) c Q) : SW P Γ σ c Q := fun a w hh => by
  obtain ⟨A, c, h1⟩ := hh.lookS hk
  rw [cellsOf_length] at h1
  exact h A c a w h1
/-! Slices of one's own that are let go of are new. -/
theorem Holds.freezeN (h : Holds Γ σ a w) (hl : Γ.lent = []) {j k e sz c : Nat} {A : Option Addr} {F : List Nat} {α : Type} {enc enc' : α → List D} {l : List α} (hj : σ.bx[j]? = some (.r F (vecT e sz enc A c l))) (hk : σ.tm k = some (isD (.slice A l.length c))) (he : ∀ x, LeAll (enc x) ((enc' x).map (nwD Γ.w0.heap.size))) : Holds Γ ((⟨σ.tm, dropAt σ.bx 0 [j]⟩ : St).put k (nwD Γ.w0.heap.size (lsD enc' l))) a w := by
  have h1 := h.drop [j]
  refine h1.learn ?_
  have hv : a.tmps.getD k undef = .slice A l.length c := h.tm k _ hk
  intro L' hL'
  obtain ⟨xs, ha, ho, hF⟩ := h.resAt hj
  have hnew : ∀ g ∈ F, Γ.w0.heap.size ≤ g := fun g hg => by
    rcases h.nw g (mem_fps.2 ⟨_, List.mem_of_getElem? hj, hg⟩) with h2 | h2
    · exact h2
    · rw [hl] at h2; cases h2
  have hoff : ∀ g ∈ F, g ∉ L' := fun g hg hm => by
    rcases hL' g hm with h2 | h2
    · have := hnew g hg; omega
    · exact apart_drop h hj hg h2
  have hall : All L' w (l.flatMap enc') xs := by
    have hle : ∀ l : List α, LeAll (l.flatMap enc) ((l.flatMap enc').map (nwD Γ.w0.heap.size)) := fun l => by
      induction l with
      | nil => trivial
      | cons x l ih =>
        rw [List.flatMap_cons, List.flatMap_cons, List.map_append]
        exact LeAll.append (he x) ih
    refine all_nw (L := σ.L Γ) (fun x hx => ?_) ((hle l).all ha)
    rcases hL' x hx with h2 | h2
    · exact .inl h2
    · rcases List.mem_append.1 h2 with h3 | h3
      · exact .inr (List.mem_append_left _ (dropAt_fps h3))
      · exact .inr (List.mem_append_right _ h3)
  have hR : (vecR e sz A l.length c (l.flatMap enc')).R L' F w := ⟨xs, hall, ho, hF⟩
  obtain ⟨h2, h3⟩ := own_at hR (L' := L') (fun x hx => .inl hx) hoff
  exact ⟨A, c, hv, h2, h3⟩
theorem nw_put {k : Nat} {d d' : D} (tm : Nat → Option D) (bx : List Box) : ((⟨tm, bx⟩ : St).put k d).put k d' = (⟨tm, bx⟩ : St).put k d' := by
  simp only [St.put]
  congr 1
  funext i
  cases Nat.beq i k <;> rfl
theorem Holds.freezeNB (h : Holds Γ σ a w) (hl : Γ.lent = []) {j k e c : Nat} {A : Option Addr} {F : List Nat} {b : List UInt8} (hj : σ.bx[j]? = some (.r F (vecT e 1 encB A c b))) (hk : σ.tm k = some (isD (.slice A b.length c))) : Holds Γ ((⟨σ.tm, dropAt σ.bx 0 [j]⟩ : St).put k (nwD Γ.w0.heap.size (bD b))) a w := by
  have h1 := h.freezeN hl (enc' := encB) hj hk (fun x => ⟨le_nw_is, trivial⟩)
  have h2 := h1.weak (i := k) (d := nwD Γ.w0.heap.size (lsD encB b)) (d' := nwD Γ.w0.heap.size (bD b)) (by rw [put_tm, if_pos rfl]) (le_nw_mono (Nat.le_refl _) (le_ls_b b))
  rw [nw_put] at h2
  exact h2
theorem SW.freezeN {cd : Code} (j k : Nat) {e sz c : Nat} {A : Option Addr} {F : List Nat} {α : Type} {enc enc' : α → List D} {l : List α} (hl : Γ.lent = []) (hj : σ.bx[j]? = some (.r F (vecT e sz enc A c l))) (hk : σ.tm k = some (isD (.slice A l.length c))) (he : ∀ x, LeAll (enc x) ((enc' x).map (nwD Γ.w0.heap.size))) (h : SW P Γ ((⟨σ.tm, dropAt σ.bx 0 [j]⟩ : St).put k (nwD Γ.w0.heap.size (lsD enc' l))) cd Q) : SW P Γ σ cd Q := fun a w hh => h a w (hh.freezeN hl hj hk he)
theorem SW.freezeNB {cd : Code} (j k : Nat) {e c : Nat} {A : Option Addr} {F : List Nat} {b : List UInt8} (hl : Γ.lent = []) (hj : σ.bx[j]? = some (.r F (vecT e 1 encB A c b))) (hk : σ.tm k = some (isD (.slice A b.length c))) (h : SW P Γ ((⟨σ.tm, dropAt σ.bx 0 [j]⟩ : St).put k (nwD Γ.w0.heap.size (bD b))) cd Q) : SW P Γ σ cd Q := fun a w hh => h a w (hh.freezeNB hl hj hk)
theorem SN.freezeNB (j k : Nat) {e c : Nat} {A : Option Addr} {F : List Nat} {b : List UInt8} (hl : Γ.lent = []) (hj : σ.bx[j]? = some (.r F (vecT e 1 encB A c b))) (hk : σ.tm k = some (isD (.slice A b.length c))) (h : SN Γ Q ((⟨σ.tm, dropAt σ.bx 0 [j]⟩ : St).put k (nwD Γ.w0.heap.size (bD b)))) : SN Γ Q σ := fun a w hh => h a w (hh.freezeNB hl hj hk)
theorem SWl.freezeN {ops : Array Oper} {lo : List Oper} (j k : Nat) {e sz c : Nat} {A : Option Addr} {F : List Nat} {α : Type} {enc enc' : α → List D} {l : List α} (hl : Γ.lent = []) (hj : σ.bx[j]? = some (.r F (vecT e sz enc A c l))) (hk : σ.tm k = some (isD (.slice A l.length c))) (he : ∀ x, LeAll (enc x) ((enc' x).map (nwD Γ.w0.heap.size))) (h : SWl P Γ ops Q lo ((⟨σ.tm, dropAt σ.bx 0 [j]⟩ : St).put k (nwD Γ.w0.heap.size (lsD enc' l)))) : SWl P Γ ops Q lo σ := fun a w hh => h a w (hh.freezeN hl hj hk he)
instance (n : Nat) (ds : List D) [os : Ones ds] : Ones (ds.map (nwD n)) := ⟨fun d hd => by
  obtain ⟨e, he, rfl⟩ := List.mem_map.1 hd
  exact fun L w v h => os.m e he _ _ _ (le_nw _ _ _ h)⟩
/-- A slice of one's own that lies in a cell of one's own is let go of. -/
theorem Holds.freezeC (h : Holds Γ σ a w) {j j2 o g e sz c : Nat} {A : Option Addr} {F : List Nat} {α : Type} {enc : α → List D} {l : List α} {ds : List D} {d' : D} (hj : σ.bx[j]? = some (.c g ds)) (hd : ds[o]? = some (isD (.slice A l.length c))) (hv : σ.bx[j2]? = some (.r F (vecT e sz enc A c l)))
    (hl : ∀ L', (∀ x ∈ L', x ∈ σ.L Γ ∨ w.heap.size ≤ x) → (∀ x ∈ F, x ∉ L') → (vecT e sz enc A c l).R (σ.L Γ) F w → d'.R L' w (.slice A l.length c)) : Holds Γ ⟨σ.tm, dropAt (setBx σ.bx j (ds.set o d')) 0 [j2]⟩ a w := by
  have hids : fps (setBx σ.bx j (ds.set o d')) = fps σ.bx := setBx_ids _ _ _
  have hne : j ≠ j2 := fun e => by subst e; rw [hj] at hv; cases hv
  have hset : ∀ (bs : List Box) (j j2 : Nat) (es : List D) (b : Box), j ≠ j2 → bs[j2]? = some b → (setBx bs j es)[j2]? = some b := by
    intro bs
    induction bs with
    | nil => intro j j2 es b _ h; simp at h
    | cons x bs ih =>
      intro j j2 es b hne h
      cases j with
      | zero =>
        cases j2 with
        | zero => exact absurd rfl hne
        | succ q => simpa [setBx] using h
      | succ i =>
        cases j2 with
        | zero => simpa [setBx] using h
        | succ q =>
          simp only [setBx, List.getElem?_cons_succ] at h ⊢
          exact ih i q es b (by omega) h
  have hv2 := hset _ _ _ (ds.set o d') _ hne hv
  have hoff : ∀ x ∈ F, x ∉ fps (dropAt (setBx σ.bx j (ds.set o d')) 0 [j2]) ++ Γ.base := fun x hx hm => by
    rcases List.mem_append.1 hm with hm | hm
    · obtain ⟨b, hb, hxb⟩ := mem_fps.1 hm
      obtain ⟨i, h1, h2⟩ := dropAt_mem hb
      have := fps_at (by rw [hids]; exact h.nd) h1 hv2 hxb hx
      subst this
      simp at h2
    · have h1 := h.bs x hm
      rcases h.nw x (mem_fps.2 ⟨_, List.mem_of_getElem? hv, hx⟩) with h2 | h2
      · omega
      · exact h.dj.1 x h2 hm
  have hsub : ∀ x ∈ fps (dropAt (setBx σ.bx j (ds.set o d')) 0 [j2]) ++ Γ.base, x ∈ σ.L Γ := fun x hx => by
    rcases List.mem_append.1 hx with hx | hx
    · exact List.mem_append_left _ (by rw [← hids]; exact dropAt_fps hx)
    · exact List.mem_append_right _ hx
  refine h.swap (Only.refl [] w) (by simp) (fun b hb => ?_) (fun x hx => .inl (by rw [← hids]; exact dropAt_fps hx)) (dropAt_nodup (by rw [hids]; exact h.nd))
  rcases setBx_mem σ.bx j (ds.set o d') g ds hj h.nd b (dropAt_sub hb) with rfl | ⟨_, h2⟩
  · right
    obtain ⟨t, cs, hbk, ha⟩ := h.boxAt hj
    refine ⟨t, cs, hbk, ?_⟩
    obtain ⟨v, h3, h4⟩ := ha.at hd
    have h5 := (ha.less (L' := fps (dropAt (setBx σ.bx j (ds.set o d')) 0 [j2]) ++ Γ.base) (fun x hx => .inl (hsub x hx)))
    have h6 := h5.set (i := o) (d := d') (c := v) (by
      rw [show v = .slice A l.length c from h4]
      exact hl _ (fun x hx => .inl (hsub x hx)) hoff (h.resAt hv))
    have e7 : cs.set o v = cs := by
      obtain ⟨h7, h8⟩ := List.getElem?_eq_some_iff.1 h3
      rw [← h8]
      exact List.set_getElem_self h7
    rwa [e7] at h6
  · exact .inl ⟨h2, by simp⟩
theorem frz_ls {j2 e sz c : Nat} {A : Option Addr} {F : List Nat} {α : Type} {enc : α → List D} {l : List α} {w : World} {L L' : List Nat} (h1 : ∀ x ∈ L', x ∈ L ∨ w.heap.size ≤ x) (h2 : ∀ x ∈ F, x ∉ L') (h : (vecT e sz enc A c l).R L F w) : (lsD enc l).R L' w (.slice A l.length c) := by
  obtain ⟨h3, h4⟩ := own_at h h1 h2
  exact ⟨A, c, rfl, h3, h4⟩
theorem SW.freezeC {cd : Code} (j o j2 : Nat) {g e sz c : Nat} {A : Option Addr} {F : List Nat} {α : Type} {enc : α → List D} {l : List α} {ds : List D} (hj : σ.bx[j]? = some (.c g ds)) (hd : ds[o]? = some (isD (.slice A l.length c))) (hv : σ.bx[j2]? = some (.r F (vecT e sz enc A c l))) (h : SW P Γ ⟨σ.tm, dropAt (setBx σ.bx j (ds.set o (lsD enc l))) 0 [j2]⟩ cd Q) : SW P Γ σ cd Q := fun a w hh => h a w (hh.freezeC hj hd hv (fun L' h1 h2 h3 => frz_ls (j2 := 0) h1 h2 h3))
theorem Holds.freezeCN (h : Holds Γ σ a w) (hlent : Γ.lent = []) {j j2 o g e sz c : Nat} {A : Option Addr} {F : List Nat} {α : Type} {enc enc' : α → List D} {l : List α} {ds : List D} (hj : σ.bx[j]? = some (.c g ds)) (hd : ds[o]? = some (isD (.slice A l.length c))) (hv : σ.bx[j2]? = some (.r F (vecT e sz enc A c l))) (he : ∀ x, LeAll (enc x) ((enc' x).map (nwD Γ.w0.heap.size))) : Holds Γ ⟨σ.tm, dropAt (setBx σ.bx j (ds.set o (nwD Γ.w0.heap.size (lsD enc' l)))) 0 [j2]⟩ a w := by
  refine h.freezeC hj hd hv (fun L1 hL1 hF1 hR L' hL' => ?_)
  obtain ⟨xs, ha, ho, hF⟩ := hR
  have hnew : ∀ g ∈ F, Γ.w0.heap.size ≤ g := fun g hg => by
    rcases h.nw g (mem_fps.2 ⟨_, List.mem_of_getElem? hv, hg⟩) with h2 | h2
    · exact h2
    · rw [hlent] at h2; cases h2
  have hoff : ∀ g ∈ F, g ∉ L' := fun g hg hm => by
    rcases hL' g hm with h2 | h2
    · have := hnew g hg; omega
    · exact hF1 g hg h2
  have hall : All L' w (l.flatMap enc') xs := by
    have hle : ∀ l : List α, LeAll (l.flatMap enc) ((l.flatMap enc').map (nwD Γ.w0.heap.size)) := fun l => by
      induction l with
      | nil => trivial
      | cons x l ih =>
        rw [List.flatMap_cons, List.flatMap_cons, List.map_append]
        exact LeAll.append (he x) ih
    have h5 : All L1 w ((l.flatMap enc').map (nwD Γ.w0.heap.size)) xs := ((hle l).all ha).less hL1
    exact all_nw hL' h5
  have hR : (vecR e sz A l.length c (l.flatMap enc')).R L' F w := ⟨xs, hall, ho, hF⟩
  obtain ⟨h2, h3⟩ := own_at hR (L' := L') (fun x hx => .inl hx) hoff
  exact ⟨A, c, rfl, h2, h3⟩
theorem SW.freezeCN {cd : Code} (j o j2 : Nat) {g e sz c : Nat} {A : Option Addr} {F : List Nat} {α : Type} {enc enc' : α → List D} {l : List α} {ds : List D} (hlent : Γ.lent = []) (hj : σ.bx[j]? = some (.c g ds)) (hd : ds[o]? = some (isD (.slice A l.length c))) (hv : σ.bx[j2]? = some (.r F (vecT e sz enc A c l))) (he : ∀ x, LeAll (enc x) ((enc' x).map (nwD Γ.w0.heap.size))) (h : SW P Γ ⟨σ.tm, dropAt (setBx σ.bx j (ds.set o (nwD Γ.w0.heap.size (lsD enc' l)))) 0 [j2]⟩ cd Q) : SW P Γ σ cd Q := fun a w hh => h a w (hh.freezeCN hlent hj hd hv he)
/-- There are at least so many blocks. -/
def geR (n : Nat) : Res where
  R _ F w := F = [] ∧ n ≤ w.heap.size
  lt := fun ⟨h, _⟩ g hg => by subst h; cases hg
  keep := fun ⟨h, k⟩ ho _ _ => ⟨h, Nat.le_trans k ho.size⟩
  less := fun h _ => h
theorem SW.ge {c : Code} (h : SW P Γ ⟨σ.tm, σ.bx ++ [.r [] (geR Γ.w0.heap.size)]⟩ c Q) : SW P Γ σ c Q := fun a w hh => h a w (hh.more (Only.refl [] w) (b := .r [] (geR Γ.w0.heap.size)) ⟨rfl, hh.on.size⟩ (by simp [Box.fp]) (by simp [Box.fp]))
/-- A function is walked, what it is lent being known at its start. -/
theorem con_ofRK {f : FuncId} {fn : Func} {c : Code} {pre : List Box} {ad : List D} {ι : Type} {post : ι → List Box} {d : ι → D} (hf : P.funcs[f]? = some fn) (hn : (fn.name == "runtime.NumGoroutine") = false) (hb : fn.body = some c) (hlen : Nat.ble ad.length fn.ntmps = true)
    (h : ∀ (base : List Nat) (w0 : World), (∀ b ∈ pre, b.R (fps pre ++ base) w0) → SW P ⟨fn.ntmps, base, w0, fps pre, []⟩ (St.ob (inits 0 ad) pre) c (bodyPost P fn fun e w' => ∃ i v, e = .returned v ∧ (d i).R (fps (post i) ++ base) w' v ∧ (∀ b ∈ post i, b.R (fps (post i) ++ base) w') ∧ (fps (post i)).Nodup ∧ (∀ g ∈ fps (post i), g ∈ fps pre ∨ w0.heap.size ≤ g) ∧ Only (fps pre) w0 w')) : ConR P f pre ad post d := by
  refine ⟨enters_of hf hn (by rw [hb]; rfl), fun L w vs hL hG hgF hg hnd hbk ha => ?_⟩
  refine calls_of_wp hf hb (h L w hbk _ _ ?_)
  have hl := ha.length
  have hle : ad.length ≤ fn.ntmps := by simpa using hlen
  refine ⟨rfl, by simp [hl]; omega, fun i e hi => ?_, hbk, hnd, fun g hg => .inr hg, Only.refl _ _, hL, hg, hG, hgF⟩
  have := inits_spec (pre := []) (post := List.replicate (fn.ntmps - vs.length) undef) ha rfl i e hi
  have e1 : vs.toArray ++ Array.replicate (fn.ntmps - vs.toArray.size) undef = ([] ++ vs ++ List.replicate (fn.ntmps - vs.length) undef).toArray := by
    apply Array.ext'
    simp
  rw [e1]
  exact this
theorem ge_of {n : Nat} {pre : List Box} {base : List Nat} {w0 : World} (h : ∀ b ∈ pre, b.R (fps pre ++ base) w0) (j : Nat) (hj : pre[j]? = some (.r [] (geR n))) : n ≤ w0.heap.size := (h _ (List.mem_of_getElem? hj)).2
end
end Sx
end Go.Proofs.YtonjpfpdpfonnaaDoor
namespace Go.Proofs.YtonjpfpdpfonnaaDoor
open Go.RowKit
namespace Sx
section
variable {P : Program} {Γ : Cx} {σ : St} {S : List Nat} {dst : Option Tmp} {ty : TypeId} {pos : String} {af : Array Edge} {gd : Option (Nat × Bool)} {d : D} {Q : Exit → Act → World → Prop} {a : Act} {w : World}
/-! Effects that make several blocks. -/
def EfL (P : Program) (Γ : Cx) (o : Oper) (σ : St) (T : List Nat → St → Prop) : Prop :=
  ∀ a w, Holds Γ σ a w → ∀ (K : Act → World → Prop) (Q : Exit → Act → World → Prop), (∀ G σ' a' w', (∀ g ∈ G, w.heap.size ≤ g) → T G σ' → Holds Γ σ' a' w' → Only [] w w' → K a' w') → o.wp P a w K Q
section
variable {l : List Oper} {tz uz : Reg.Tz} {op : Op}
theorem SWz.efl {T : List Nat → St → Prop} {i : Nat} (ho : l[i]? = some ⟨dst, op, ty, pos, af, none⟩) (h : EfL P Γ ⟨dst, op, ty, pos, af, none⟩ σ T) (hk : ∀ G σ', T G σ' → SWz P Γ l Q (S ++ G) tz σ') (hu : SWz P Γ l Q S uz σ) : SWz P Γ l Q S (.n i tz uz) σ := by
  intro a w hh
  have e : l.getD i default = ⟨dst, op, ty, pos, af, none⟩ := by rw [List.getD_eq_getElem?_getD, ho]; rfl
  unfold Reg.wpG
  rw [e]
  refine ⟨wpList_plain rfl fun K hK => ?_, hu a w hh⟩
  exact h a w hh K _ fun G σ' a' w' hg hT hh' hO => hK _ _ ⟨S ++ G, fun x hx => by
    rcases List.mem_append.1 hx with hx | hx
    · exact .inl hx
    · exact .inr (hg x hx), hO, hk G σ' hT a' w' hh'⟩
end
theorem EfL.callR {f : FuncId} {args : Array Operand} {aT : Array TypeId} {ad es : List D} {ι : Type} {post : ι → List Box} {d : ι → D} {k : Nat} (hcon : ConR P f [] ad post d) (he : σ.evs args.toList = some es) (hl : LeAll es ad) (hk : dstOk Γ.nt k = true) :
    EfL P Γ ⟨some k, .call { callee := .value (.func f), args := args, argTypes := aT }, ty, pos, af, gd⟩ σ (fun G σ' => ∃ i, G = fps (post i) ∧ σ' = (σ.give [] (post i)).put k (d i)) := by
  intro a w hh K Q hK
  have hall := hl.all (evs_spec hh he)
  unfold Oper.wp
  rw [run_callV (cap := []) hcon.en (show a.eval (.func f) = .func (.func f) #[] ([] : List Value).toArray from rfl), List.append_nil]
  simp only [Oper.upon]
  refine (hcon.go (σ.L Γ) w _ hh.lt hh.gl (by simp [fps]) (by simp [fps]) (by simp [fps]) (by simp) (by simpa [fps] using hall)).mono ?_
  rintro r w' ⟨i, v, rfl, hd, hR, hnd, hnw, ho⟩
  have hnew : ∀ g ∈ fps (post i), w.heap.size ≤ g := fun g hg => by
    rcases hnw g hg with h | h
    · simp [fps] at h
    · exact h
  have hs : SubBx σ.bx [] [] := trivial
  obtain ⟨h1, h2⟩ := hh.give (js := []) (pre := []) (post := post i) hs ho (fun b hb => (Box.less (hR b hb) (fun x hx => .inl (by
    rcases List.mem_append.1 hx with hx | hx
    · exact List.mem_append_left _ hx
    · exact List.mem_append_right _ (List.mem_filter.1 hx).1)))) hnd (fun g hg => .inr (hnew g hg))
  exact hK (fps (post i)) _ _ _ hnew ⟨i, rfl, rfl⟩ (h1.put (by simpa [dstOk] using hk) ((d i).less hd (fun x hx => by
    rcases h2 x hx with h3 | h3
    · rcases List.mem_append.1 h3 with h3 | h3
      · exact .inl (List.mem_append_left _ h3)
      · exact .inl (List.mem_append_right _ (List.mem_filter.1 h3).1)
    · exact .inr h3))) (by simpa [fps] using ho)
/-- []byte(s). -/
theorem Ef.bytes {x : Operand} {sT dT e k : Nat} {b : List UInt8} (hx : σ.ev x = some (strD b)) (hs : stringT P sT = true) (hd : sliceT P dT e = true) (he : intT P e .u8 = true) (hk : dstOk Γ.nt k = true) :
    Ef P Γ S ⟨some k, .convert sT dT x, ty, pos, af, gd⟩ σ (fun σ' => σ' = σ.put k (nwD Γ.w0.heap.size (bD b))) := by
  intro a w hh K Q hK
  have hxv : a.eval x = .string ⟨b.toArray⟩ := ev_spec hh hx
  have hrun := run_bytes_of_string (P := P) w sT dT e ⟨b.toArray⟩ (stringT_spec hs) (sliceT_spec hd) (intT_spec he)
  unfold Oper.wp execOp
  simp only [hxv, Sem.run_bind, hrun, Result.andThen_ok, Sem.run_pure]
  have hsz : (ByteArray.mk b.toArray).size = b.length := str_size b
  rw [hsz]
  have hge := grownCap_ge w b.length 0 e
  have ho : Only [] w (w.drew.alloc (.cells (bytesRow ⟨b.toArray⟩ (grownCap w b.length 0 e)) e ((bytesRow ⟨b.toArray⟩ (grownCap w b.length 0 e)).size, (bytesRow ⟨b.toArray⟩ (grownCap w b.length 0 e)).size + 1))) := ((Only.refl [] w).drew).alloc _
  refine hK _ _ _ rfl ((hh.keep ho).put (by simpa [dstOk] using hk) ?_) (ho.mono (by simp))
  intro L' hL'
  refine ⟨_, _, by rw [cellsOf_length], by rw [cellsOf_length]; exact hge, fun _ => ⟨_, 0, rfl, by simp, fun j hj => ?_⟩, fun _ p hp hm => ?_⟩
  · have hj' : j < b.length := by simpa using hj
    rw [Nat.zero_add]
    have hb := heap_alloc_new w.drew (.cells (bytesRow ⟨b.toArray⟩ (grownCap w b.length 0 e)) e ((bytesRow ⟨b.toArray⟩ (grownCap w b.length 0 e)).size, (bytesRow ⟨b.toArray⟩ (grownCap w b.length 0 e)).size + 1))
    rw [show w.drew.heap = w.heap from rfl] at hb
    simp only [World.cell?, hb]
    rw [cellsOf_get hj']
    have e2 : (bytesRow ⟨b.toArray⟩ (grownCap w b.length 0 e))[j]? = some (Value.int .u8 (b[j].toNat : Int)) := by
      unfold bytesRow
      rw [Array.getElem?_append_left (by simpa using hj')]
      rw [Array.getElem?_map, Array.getElem?_eq_getElem (by simpa using hj')]
      simp
    simpa using e2
  · injection hp with hp
    subst hp
    simp only at hm
    rcases hL' _ hm with h | h
    · have := hh.on.size
      omega
    · have := hh.lt _ h
      omega
/-- []byte{..}, of one's own. -/
theorem Ef.litV {parts : List (Nat × Operand)} {T e n k : Nat} {idx : List Nat} {b : List UInt8} (hi : parts.map (·.1) = idx) (he : σ.evs (parts.map (·.2)) = some ((cellsOf b).map isD)) (hn : n = b.length) (hm : n ≤ 1000000) (hrun : ∀ w' : World, (Instr.buildSlice T n (idx.zip (cellsOf b)).toArray).run P w' = .ok (.slice (some ⟨w'.heap.size, 0, none⟩) n n) (w'.alloc (.cells (cellsOf b).toArray e))) (hk : dstOk Γ.nt k = true) :
    Ef P Γ S ⟨some k, .buildSlice T n parts.toArray, ty, pos, af, gd⟩ σ (fun σ' => ∃ g, σ' = (⟨σ.tm, σ.bx ++ [.r [g] (vecT e 1 encB (some ⟨g, 0, none⟩) n b)]⟩ : St).put k (isD (.slice (some ⟨g, 0, none⟩) b.length n))) := by
  intro a w hh K Q hK
  have hcs := all_isD (evs_spec hh he)
  have e1 : (parts.toArray.map fun (i, x) => (i, a.eval x)) = (idx.zip (cellsOf b)).toArray := by
    rw [← hi, ← hcs]
    apply Array.ext'
    simp only [Array.toList_map]
    exact zip_parts a.eval parts
  have e2 : (execOp a.eval ⟨some k, .buildSlice T n parts.toArray, ty, pos, af, gd⟩).run P w = .ok (.value (.slice (some ⟨w.heap.size, 0, none⟩) b.length n)) (w.alloc (.cells (cellsOf b).toArray e)) := by
    simp only [execOp]
    rw [e1, Sem.run_bind, hrun w, ← hn]
    rfl
  unfold Oper.wp
  rw [e2]
  have h5 := hh.more ((Only.refl [] w).alloc (.cells (cellsOf b).toArray e)) (b := .r [w.heap.size] (vecT e 1 encB (some ⟨w.heap.size, 0, none⟩) n b)) ⟨cellsOf b, by rw [flat_encB]; exact all_is _, ⟨by simp, .inr ⟨w.heap.size, n, _, rfl, Nat.zero_le _, heap_alloc_new w _, by omega, by simp only [maxLen]; omega, by simp [hn], by simp [List.take_of_length_le]⟩⟩, rfl⟩ (fun g hg => by rw [List.mem_singleton.1 hg]; exact Nat.le_refl _) (by simp [Box.fp])
  exact hK _ _ _ ⟨_, rfl⟩ (h5.put (by simpa [dstOk] using hk) rfl) ((Only.refl S w).alloc _)
theorem only_freeze {g o : Nat} : Only [g] w (w.freeze ⟨g, o, none⟩ 1) := by
  unfold World.freeze
  rw [if_neg (by decide)]
  refine ⟨rfl, rfl, rfl, by simp, fun k hk hn => ?_⟩
  have : ¬ g = k := fun e => hn (by rw [e]; exact List.mem_singleton.2 rfl)
  simp [Array.getElem?_modify, this]
theorem cell_freeze {g o : Nat} (p : Addr) : (w.freeze ⟨g, o, none⟩ 1).cell? p = w.cell? p := by
  unfold World.freeze
  rw [if_neg (by decide)]
  simp only [World.cell?, Array.getElem?_modify]
  by_cases h : g = p.block
  · rw [if_pos h]
    cases hx : w.heap[p.block]? with
    | none => simp
    | some x => cases x <;> simp
  · rw [if_neg h]
/-- []byte("..") of a literal: the block is marked, and known from then on. -/
theorem Ef.mark {x : Operand} {T e k c : Nat} {A : Option Addr} {F : List Nat} {b : List UInt8} (j : Nat) (hx : σ.ev x = some (isD (.slice A b.length c))) (hj : σ.bx[j]? = some (.r F (vecT e 1 encB A c b))) (hT : sliceT P T e = true) (he : intT P e .u8 = true) (h0 : 0 < b.length) (hS : ∀ g ∈ F, g ∈ S) (hk : dstOk Γ.nt k = true) :
    Ef P Γ S ⟨some k, .convert T T x, ty, pos, af, gd⟩ σ (fun σ' => σ' = (⟨σ.tm, dropAt σ.bx 0 [j]⟩ : St).put k (bD b)) := by
  intro a w hh K Q hK
  have hxv : a.eval x = .slice A b.length c := ev_spec hh hx
  obtain ⟨g, cur, xs, rfl, rfl, hg, hnc, hm, hcs, htk, hxl, ha⟩ := vec_some (hh.resAt hj) h0
  have hsh : w.shape? g = some (e, cur.size) := by simp [World.shape?, hg]
  have e2 : (execOp a.eval ⟨some k, .convert T T x, ty, pos, af, gd⟩).run P w = .ok (.value (.slice (some ⟨g, 0, none⟩) b.length c)) (w.freeze ⟨g, cur.size, none⟩ 1) := by
    simp [execOp, hxv, convert, run_underlying (sliceT_spec hT), run_underlying (intT_spec he), markStringish, hsh]
  unfold Oper.wp
  rw [e2]
  have ho : Only [g] w (w.freeze ⟨g, cur.size, none⟩ 1) := only_freeze
  have hmem := List.mem_of_getElem? hj
  have h1 : Holds Γ ⟨σ.tm, dropAt σ.bx 0 [j]⟩ a (w.freeze ⟨g, cur.size, none⟩ 1) := by
    refine hh.swap ho (fun x hx => mem_fps.2 ⟨_, hmem, hx⟩) (fun b' hb' => .inl ⟨dropAt_sub hb', fun x hx hm => ?_⟩) (fun x hx => .inl (dropAt_fps hx)) (dropAt_nodup hh.nd)
    have h2 := apart_drop hh hj (g := x) hx
    exact h2 (List.mem_append_left _ (mem_fps.2 ⟨b', hb', hm⟩))
  have hoff := apart_drop hh hj (g := g) (List.mem_singleton.2 rfl)
  rw [flat_encB] at ha
  have hxs := all_isD ha
  subst hxs
  refine hK _ _ _ rfl (h1.put (by simpa [dstOk] using hk) ⟨some ⟨g, 0, none⟩, c, by rw [cellsOf_length], by rw [cellsOf_length]; exact hnc, fun _ => ⟨g, 0, rfl, ?_, fun i hi => ?_⟩, fun _ p hp hm => ?_⟩) (ho.mono (fun x hx _ => hS x hx))
  · exact Nat.lt_of_lt_of_le (Array.getElem?_eq_some_iff.1 hg).1 ho.size
  · rw [cell_freeze, Nat.zero_add]
    have hb : w.cell? ⟨g, i, none⟩ = cur[i]? := by simp [World.cell?, hg]
    rw [hb, ← htk, List.getElem?_take]
    have : i < b.length * 1 := by simpa using hi
    rw [if_pos this]
    simp
  · injection hp with hp
    subst hp
    exact hoff hm
/-! string(b). -/
theorem Rd.strBox {x : Operand} {sT dT e g n : TypeId} {b : List UInt8} (j : Nat) (hx : σ.ev x = some (isD (.slice (some ⟨g, 0, none⟩) n n))) (hj : σ.bx[j]? = some (.c g ((cellsOf b).map isD))) (hn : b.length = n) (hs : sliceT P sT e = true) (he : intT P e .u8 = true) (hd : stringT P dT = true) (hS : Ap σ j S) : Rd P Γ S ⟨dst, .convert sT dT x, ty, pos, af, gd⟩ σ (strD b) := by
  intro a w hh
  have hv : a.eval x = .slice (some ⟨g, 0, none⟩) n n := ev_spec hh hx
  obtain ⟨t, cs, hb, ha⟩ := hh.boxAt hj
  have hcs := all_isD ha
  subst hcs
  refine ⟨_, rfl, fun w' ho => ?_⟩
  have hb' := hb.keep ho (fun hm => hS.spec hh.nd hj g hm (List.mem_singleton.2 rfl))
  have hr' : RV w' (some ⟨g, 0, none⟩) (cellsOf b) := fun _ => ⟨g, 0, rfl, hb'.lt, fun i hi => by rw [Nat.zero_add, hb'.cell]⟩
  have h3 := run_str (P := P) (c := n) (sliceT_spec hs) (intT_spec he) (stringT_spec hd) (cellsOf_length b) hr'
  rw [cellsOf_length, hn] at h3
  simp only [execOp, hv, Sem.run_bind, h3]
  rfl
/-! Parts of slices. -/
theorem At.take {L : List Nat} {A : Option Addr} {ds : List D} (n : Nat) (h : At L w A ds) : At L w A (ds.take n) := fun h0 => by
  obtain ⟨g, o, e, hg, hn, cs, h1, h2⟩ := h (by rw [List.length_take] at h0; omega)
  refine ⟨g, o, e, hg, hn, cs.take n, h1.take n, fun j hj => ?_⟩
  rw [List.length_take] at hj
  rw [h2 j (by omega), List.getElem?_take, if_pos (by omega)]
theorem flat_take {α : Type} {enc : α → List D} {sz : Nat} [Row enc sz] : ∀ (l : List α) (k : Nat), (l.take k).flatMap enc = (l.flatMap enc).take (k * sz)
  | [], k => by simp
  | x :: l, 0 => by simp
  | x :: l, k + 1 => by
    have h := Row.len (enc := enc) (sz := sz) x
    rw [List.take_succ_cons, List.flatMap_cons, List.flatMap_cons, flat_take (sz := sz) l k, Nat.succ_mul, Nat.add_comm (k * sz) sz, List.take_append, h, Nat.add_sub_cancel_left]
    congr 1
    exact (List.take_of_length_le (by omega)).symm
theorem Rd.shL {x z : Operand} {T e hi : Nat} {α : Type} {enc : α → List D} {l : List α} {kz : IntKind} (sz : Nat) [Row enc sz] (hx : σ.ev x = some (lsD enc l)) (hz : σ.ev z = some (isD (.int kz (hi : Int)))) (hT : sliceT P T e = true) (hs : (P.info? e).map (·.size) = some sz) (h2 : hi ≤ l.length) :
    Rd P Γ S ⟨dst, .slice T x none (some z) none, ty, pos, af, gd⟩ σ (lsD enc (l.take hi)) := by
  intro a w hh
  obtain ⟨A, c, hxv, hc, ha⟩ := ev_spec hh hx
  have hzv : a.eval z = .int kz (hi : Int) := ev_spec hh hz
  obtain ⟨inf, hi', hsz⟩ := Option.map_eq_some_iff.1 hs
  have e1 : hi ≤ c := by omega
  refine ⟨.slice A hi c, ⟨A, c, by rw [List.length_take, Nat.min_eq_left h2], by rw [List.length_take]; omega, by rw [flat_take (sz := sz)]; exact ha.take _⟩, fun w' _ => ?_⟩
  cases A with
  | none => simp [execOp, hxv, hzv, Instr.sliceAt, Instr.slice, Instr.sliceBounds, Instr.sliceBound, asIntOf, run_underlying (sliceT_spec hT), sizeOf, typeInfo, hi', hsz, e1]
  | some p =>
    obtain ⟨b, o, sp⟩ := p
    simp [execOp, hxv, hzv, Instr.sliceAt, Instr.slice, Instr.sliceBounds, Instr.sliceBound, asIntOf, run_underlying (sliceT_spec hT), sizeOf, typeInfo, hi', hsz, e1, Addr.add]
/-- a[i], a an array of one's own. -/
theorem Rd.idxA1 {x y : Operand} {T e g n : Nat} {kd : IntKind} {i : Int} (hx : σ.ev x = some (isD (.pointer (some ⟨g, 0, none⟩)))) (hy : σ.ev y = some (isD (.int kd i))) (hT : arrT P T e n = true) (hs : (P.info? e).map (·.size) = some 1) (h0 : 0 ≤ i) (hi : i < (n : Int)) :
    Rd P Γ S ⟨dst, .indexAddr T x y, ty, pos, af, gd⟩ σ (isD (.pointer (some ⟨g, i.toNat, none⟩))) := by
  intro a w hh
  have hxv : a.eval x = .pointer (some ⟨g, 0, none⟩) := ev_spec hh hx
  have hyv : a.eval y = .int kd i := ev_spec hh hy
  obtain ⟨inf, hi', hsz⟩ := Option.map_eq_some_iff.1 hs
  refine ⟨_, rfl, fun w' _ => ?_⟩
  simp [execOp, hxv, hyv, Instr.indexAt, run_underlying (arrT_spec hT), Instr.sureAddr, asIntOf, sizeOf, typeInfo, hi', hsz, Addr.add, h0, hi]
  omega
/-- a[i] = v, a an array of bytes of one's own. -/
theorem Ef.storeB8 {x y : Operand} {T g i : Nat} {b : List UInt8} {v : UInt8} (j : Nat) (hx : σ.ev x = some (isD (.pointer (some ⟨g, i, none⟩)))) (hj : σ.bx[j]? = some (.c g ((cellsOf b).map isD))) (hy : σ.ev y = some (isD (B8 v))) (hT : sizeT P T 1 = true) (hi : i < b.length) (hS : g ∈ S) :
    Ef P Γ S ⟨none, .store T x y, ty, pos, af, gd⟩ σ (fun σ' => σ' = σ.set j ((cellsOf (b.set i v)).map isD)) := by
  have h := Ef.storeE (P := P) (Γ := Γ) (S := S) (ty := ty) (pos := pos) (af := af) (gd := gd) j hx hy hj hT (by simpa using hi) hS
  intro a w hh K Q hK
  refine h a w hh K Q fun σ' a' w' hT' hh' ho => hK σ' a' w' ?_ hh' ho
  show σ' = _
  rw [hT']
  congr 1
  simp [cellsOf, List.map_set]
/-- s[i] = v, s of one's own, an element one cell. -/
theorem Ef.storeT1 {x y : Operand} {T e c i : Nat} {A : Option Addr} {F : List Nat} {α : Type} {enc : α → List D} {l : List α} {v : α} (j : Nat) [Row enc 1] [One d] (hx : σ.ev x = some (isD (elP A (i * 1)))) (hj : σ.bx[j]? = some (.r F (vecT e 1 enc A c l))) (hy : σ.ev y = some d) (hd : enc v = [d]) (hT : sizeT P T 1 = true) (hi : i < l.length) (hS : ∀ g ∈ F, g ∈ S) :
    Ef P Γ S ⟨none, .store T x y, ty, pos, af, gd⟩ σ (fun σ' => σ' = σ.give [j] [.r F (vecT e 1 enc A c (l.set i v))]) := by
  intro a w hh K Q hK
  have hxv : a.eval x = elP A (i * 1) := ev_spec hh hx
  have hyd := ev_spec hh hy
  have h1c := One.h (d := d) _ _ _ hyd
  obtain ⟨g, cur, xs, rfl, rfl, hg, hnc, hm, hcs, htk, hxl, ha⟩ := vec_some (hh.resAt hj) (by omega)
  have hic : i < cur.size := by rw [hcs]; omega
  obtain ⟨inf, hi', hs⟩ := Option.map_eq_some_iff.1 (show (P.info? T).map (·.size) = some 1 by unfold sizeT at hT; rw [beq_iff_eq] at hT; exact hT)
  have hcell : w.cell? ⟨g, i, none⟩ = some cur[i] := by simp [World.cell?, hg, hic]
  have hfz : w.frozen? ⟨g, i, none⟩ = false := by simp [World.frozen?, hg]
  have e2 : (execOp a.eval ⟨none, .store T x y, ty, pos, af, gd⟩).run P w = .ok .skip (w.setCell ⟨g, i, none⟩ (a.eval y)) := by
    simp [execOp, hxv, elP, Instr.storeAt, Instr.sureAddr, storeVar, sizeOf, typeInfo, hi', hs, one_cells h1c, storeCells, run_store _ _ _ _ _ h1c, Addr.add, hcell, hfz]
  unfold Oper.wp
  rw [e2]
  have ho : Only [g] w (w.setCell ⟨g, i, none⟩ (a.eval y)) := (Only.refl [g] w).setCell (p := ⟨g, i, none⟩) (.inl (by simp)) _
  have hg2 : (w.setCell ⟨g, i, none⟩ (a.eval y)).heap[g]? = some (.cells (cur.setIfInBounds i (a.eval y)) e (0, 0)) := by
    simp [World.setCell, Array.getElem?_modify, hg]
  have hsub : SubBx σ.bx [j] [.r [g] (vecT e 1 enc (some ⟨g, 0, none⟩) c l)] := ⟨⟨_, hj, LeR.refl _⟩, trivial⟩
  have hfp : fps [Box.r [g] (vecT e 1 enc (some ⟨g, 0, none⟩) c l)] = [g] := rfl
  have hset : (l.set i v).flatMap enc = (l.flatMap enc).set i d := by
    have : ∀ (l : List α) (i : Nat), (l.set i v).flatMap enc = (l.flatMap enc).set i d := by
      intro l
      induction l with
      | nil => intro i; simp
      | cons x l ih =>
        intro i
        have h1 := Row.len (enc := enc) (sz := 1) x
        obtain ⟨u, hu⟩ : ∃ u, enc x = [u] := by
          cases hx : enc x with
          | nil => rw [hx] at h1; simp at h1
          | cons u us => cases us with
            | nil => exact ⟨u, rfl⟩
            | cons => rw [hx] at h1; simp at h1
        cases i with
        | zero => simp [hd, hu]
        | succ i => simp [hu, ih i]
    exact this l i
  obtain ⟨h3, _⟩ := hh.give (post := [.r [g] (vecT e 1 enc (some ⟨g, 0, none⟩) c (l.set i v))]) hsub (by rw [hfp]; exact ho) (fun b hb => by
    rw [List.mem_singleton.1 hb]
    refine ⟨xs.set i (a.eval y), ?_, ⟨by simp [hxl], .inr ⟨g, c, _, by simp, Nat.zero_le _, hg2, by simpa using hnc, hm, by simp [hcs], ?_⟩⟩, by simp [Value.ownBlock]⟩
    · rw [hset]
      refine ((ha.set (i := i) hyd).keep ho (fun x hx => ?_)).less (fun x hx => ?_)
      · rw [List.mem_singleton.1 hx]
        exact List.mem_append_left _ (mem_fps.2 ⟨_, List.mem_of_getElem? hj, List.mem_singleton.2 rfl⟩)
      · rcases List.mem_append.1 hx with hx | hx
        · exact .inl (List.mem_append_left _ (mem_fps.2 ⟨_, List.mem_of_getElem? hj, hx⟩))
        · exact .inl (List.mem_filter.1 hx).1
    · rw [← htk]
      simp [List.take_set]) (by simp [fps, Box.fp]) (fun g' hg' => .inl hg')
  exact hK _ _ _ rfl h3 (ho.mono (fun x hx _ => hS x hx))
end
end Sx
end Go.Proofs.YtonjpfpdpfonnaaDoor
