/- WALKING CODE BY WHAT IS KNOWN: keys of maps (strings; structs, by an equality that is known). Over any program. WALKING CODE BY WHAT IS KNOWN: words f -/
import Derived.Test.YtgokpcnabgacnaaGreatDoorGZAE
import Derived.WideKeyRuns
import Derived.MapKept
namespace Go.Proofs.YtgokpcnabgacnaaGreatDoor
open Go.RowKit
namespace Sx
theorem find_asking {P : Program} {kt : TypeId} {κ : Type} [DecidableEq κ] {enc : κ → Value} (heq : ∀ a b w, (Op.equal kt (enc a) (enc b)).run P w = .ok (decide (a = b)) w) (w : World) (k : κ) : ∀ (ks : List κ) (es : List MapEntry) (o : Nat), es.map (·.key) = ks.map enc →
  (Instr.findAsking kt (enc k) es o).run P w = .ok ((ks.idxOf? k).bind fun i => (es[i]?).map fun e => (o + i, e.val)) w
 | [], [], o, _ => rfl
 | [], _ :: _, _, h => by simp at h
 | _ :: _, [], _, h => by simp at h
 | a :: ks, e :: es, o, h => by
  simp only [List.map_cons, List.cons.injEq] at h
  simp only [Instr.findAsking]
  rw [h.1, Sem.run_bind, heq k a w]
  by_cases hka : k = a
  ·subst hka
   simp [List.idxOf?_cons]
  ·have hb : (a == k) = false := by simp; exact fun e => hka e.symm
   rw [decide_eq_false hka]
   simp only [Result.andThen_ok, Bool.false_eq_true, if_false]
   rw [find_asking heq w k ks es (o + 1) h.2]
   simp only [List.idxOf?_cons, hb]
   cases hx : ks.idxOf? k with
   | none => simp [hx]
   | some i => simp [hx, Nat.add_assoc, Nat.add_comm 1]
theorem keyOk_wide {P : Program} {kt : TypeId} {κ : Type} [DecidableEq κ] {enc : κ → Value} (hwide : (match P.underlying kt with | some (.array _ _) | some (.struct _) => true | _ => false) = true) (heq : ∀ a b w, (Op.equal kt (enc a) (enc b)).run P w = .ok (decide (a = b)) w)
  (hchk : ∀ k e w, (Instr.checkKey e 10000 kt (enc k)).run P w = .ok () w) (hbits : ∀ k, Instr.sameBits 10000 (enc k) (enc k) = true) (k : κ) (ks : List κ) : KeyOk P kt enc k ks :=
 ⟨hchk k, fun w es h => by
  rw [run_findKey_eq w hwide, find_asking heq w k ks es 0 h]
  simp, hbits k⟩
def yq (b : List UInt8) : Value := .string ⟨b.toArray⟩
theorem str_beq (k a : List UInt8) : ((ByteArray.mk k.toArray) == (ByteArray.mk a.toArray)) = decide (k = a) := by
 have e : ((ByteArray.mk k.toArray) == (ByteArray.mk a.toArray)) = (k.toArray == a.toArray) := rfl
 rw [e]
 by_cases h : k = a
 ·subst h; simp
 ·rw [decide_eq_false h, beq_eq_false_iff_ne]
  intro e
  exact h (by simpa using congrArg Array.toList e)
theorem find_now {κ : Type} [DecidableEq κ] (f : κ → List UInt8) (hf : ∀ a b, f a = f b → a = b) : ∀ (k : κ) (ks : List κ) (es : List MapEntry) (o : Nat), es.map (·.key) = ks.map (fun x => yq (f x)) →
  Instr.findNow .string (yq (f k)) es o = some ((ks.idxOf? k).bind fun i => (es[i]?).map fun e => (o + i, e.val))
 | _, [], [], o, _ => rfl
 | _, [], _ :: _, _, h => by simp at h
 | _, _ :: _, [], _, h => by simp at h
 | k, a :: ks, e :: es, o, h => by
  simp only [List.map_cons, List.cons.injEq] at h
  have hs : Instr.sameNow .string (yq (f k)) e.key = some (decide (k = a)) := by
   rw [h.1]
   show some ((ByteArray.mk (f k).toArray) == (ByteArray.mk (f a).toArray)) = _
   rw [str_beq]
   congr 1
   exact decide_eq_decide.2 ⟨hf k a, fun e => by rw [e]⟩
  simp only [Instr.findNow, hs]
  by_cases hka : k = a
  ·subst hka
   simp [List.idxOf?_cons]
  ·have hb : (a == k) = false := by simp; exact fun e => hka e.symm
   rw [decide_eq_false hka]
   simp only
   rw [find_now f hf k ks es (o + 1) h.2]
   simp only [List.idxOf?_cons, hb]
   cases hx : ks.idxOf? k with
   | none => simp [hx]
   | some i => simp [hx, Nat.add_assoc, Nat.add_comm 1]
theorem keyOk_str {P : Program} {kt : TypeId} (hT : stringT P kt = true) (k : List UInt8) (ks : List (List UInt8)) : KeyOk P kt yq k ks :=
 ⟨fun e w => MapKept.run_checkKey (n := 9999) (ZA hT) (show MapKept.IsKey .string (yq k) from trivial) e, fun w es h => by
  have h1 := MapKept.run_findKey (P := P) (w := w) (ZA hT) (find_now (fun x : List UInt8 => x) (fun _ _ e => e) k ks es 0 h)
  rw [h1]
  simp, by
  show ((ByteArray.mk k.toArray) == (ByteArray.mk k.toArray)) = true
  rw [str_beq]
  simp⟩
end Sx
end Go.Proofs.YtgokpcnabgacnaaGreatDoor
namespace Go.Proofs.YtgokpcnabgacnaaGreatDoor
open Go.RowKit
namespace Sx
abbrev bD (b : List UInt8) : D := slD (cellsOf b)
abbrev gD (d : List UInt8) : D := isD (.agg (cellsOf d).toArray)
abbrev iD (n : Int) : D := isD (.int .i64 n)
abbrev yY (b : Bool) : D := isD (.bool b)
abbrev yt (b : List UInt8) : D := isD (.string ⟨b.toArray⟩)
section
variable {L : List Nat} {w : World}
theorem all1 {d : D} {vs : List Value} (h : All L w [d] vs) : ∃ u, vs = [u] ∧ d.R L w u := by
 cases vs with
 | nil => exact h.elim
 | cons u vs => cases vs with | nil => exact ⟨u, rfl, h.1⟩ | cons => exact h.2.elim
theorem all2 {d e : D} {vs : List Value} (h : All L w [d, e] vs) : ∃ u v, vs = [u, v] ∧ d.R L w u ∧ e.R L w v := by
 cases vs with
 | nil => exact h.elim
 | cons u vs => obtain ⟨v, rfl, hv⟩ := all1 h.2; exact ⟨u, v, rfl, h.1, hv⟩
theorem all3 {d e f : D} {vs : List Value} (h : All L w [d, e, f] vs) : ∃ u v z, vs = [u, v, z] ∧ d.R L w u ∧ e.R L w v ∧ f.R L w z := by
 cases vs with
 | nil => exact h.elim
 | cons u vs => obtain ⟨v, z, rfl, hv, hz⟩ := all2 h.2; exact ⟨u, v, z, rfl, h.1, hv, hz⟩
theorem all0 {vs : List Value} (h : All L w [] vs) : vs = [] := by
 cases vs with
 | nil => rfl
 | cons => exact h.elim
theorem b_out {b : List UInt8} {v : Value} (h : (bD b).R L w v) : ∃ A c, v = .slice A b.length c ∧ b.length ≤ c ∧ RV w A (cellsOf b) := by
 obtain ⟨A, c, hv, hc, hr, _⟩ := h
 rw [zv] at hv hc
 exact ⟨A, c, hv, hc, hr⟩
end
end Sx
end Go.Proofs.YtgokpcnabgacnaaGreatDoor
namespace Go.Proofs.YtgokpcnabgacnaaGreatDoor
open Go.RowKit
namespace Sx
section
variable {P : Program} {Γ : Cx} {σ : St} {S : List Nat} {dst : Option Tmp} {ty : TypeId} {pos : String} {af : Array Edge} {gd : Option (Nat × Bool)} {d : D} {Q : Exit → Act → World → Prop} {a : Act} {w : World}
theorem ins_nil : ∀ s ∈ ([] : List Nat), s ∈ σ.L Γ := fun _ h => by cases h
theorem ins_cons {g : Nat} {ds : List D} {S : List Nat} (j : Nat) (h : σ.bx[j]? = some (.c g ds)) (h2 : ∀ s ∈ S, s ∈ σ.L Γ) : ∀ s ∈ g :: S, s ∈ σ.L Γ := fun s hs => by
 rcases List.mem_cons.1 hs with rfl | hs
 ·exact List.mem_append_left _ (mem_fps.2 ⟨_, List.mem_of_getElem? h, List.mem_singleton.2 rfl⟩)
 ·exact h2 s hs
theorem Holds.learn (h : Holds Γ σ a w) {k : Nat} {d' : D} (hd : d'.R (σ.L Γ) w (a.tmps.getD k undef)) : Holds Γ (σ.put k d') a w := by
 refine ⟨h.df, h.sz, fun j e hj => ?_, h.bx, h.nd, h.nw, h.on, h.bs, h.dj⟩
 rw [put_tm] at hj
 by_cases hjk : j = k
 ·subst hjk
  simp at hj
  subst hj
  exact hd
 ·rw [if_neg hjk] at hj
  exact h.tm j e hj
theorem dropAt_sub {bs : List Box} {js : List Nat} {b : Box} (h : b ∈ yD bs 0 js) : b ∈ bs := by
 obtain ⟨i, h1, _⟩ := ZX h
 exact List.mem_of_getElem? h1
theorem Holds.drop (h : Holds Γ σ a w) (js : List Nat) : Holds Γ ⟨σ.tm, yD σ.bx 0 js⟩ a w :=
 h.swap (Only.refl [] w) s9 (fun b hb => .inl ⟨dropAt_sub hb, by simp⟩) (fun g hg => .inl (Zw hg)) (Ye h.nd)
theorem apart_drop (h : Holds Γ σ a w) {j : Nat} {b : Box} (hj : σ.bx[j]? = some b) {g : Nat} (hg : g ∈ b.fp) : g ∉ St.L Γ ⟨σ.tm, yD σ.bx 0 [j]⟩ := fun hm => by
 rcases List.mem_append.1 hm with hm | hm
 ·obtain ⟨c, hc, hgc⟩ := mem_fps.1 hm
  obtain ⟨i, h1, h2⟩ := ZX hc
  have := fps_at h.nd h1 hj hgc hg
  subst this
  simp at h2
 ·have h1 := h.bs g hm
  rcases h.nw g (mem_fps.2 ⟨b, List.mem_of_getElem? hj, hg⟩) with h2 | h2
  ·omega
  ·exact h.dj.1 g h2 hm
theorem own_at {L L' F : List Nat} {e sz n c : Nat} {A : Option Addr} {ds : List D} (h : (vecR e sz A n c ds).R L F w) (hL : ∀ x ∈ L', x ∈ L ∨ w.heap.size ≤ x) (hF : ∀ g ∈ F, g ∉ L') : n ≤ c ∧ At L' w A ds := by
 obtain ⟨xs, ha, ho, hF'⟩ := h
 have hl := ha.length
 rcases ho.2 with ⟨hv, hn⟩ | ⟨g, cap, cur, hv, _, hg, hnc, _, hcs, htk⟩
 ·injection hv with h1 h2 h3
  subst h1 h2 h3
  refine ⟨Nat.le_refl _, fun h0 => ?_⟩
  have := ho.1
  rw [Nat.zero_mul] at this
  omega
 ·injection hv with h1 h2 h3
  subst h1 h3
  refine ⟨hnc, fun h0 => ⟨g, 0, rfl, (Array.getElem?_eq_some_iff.1 hg).1, hF g (by rw [hF']; simp [Value.ownBlock]), xs, ha.less hL, fun j hj => ?_⟩⟩
  have hb : w.cell? ⟨g, 0 + j, none⟩ = cur[j]? := by simp [World.cell?, hg]
  rw [hb, ← htk, List.getElem?_take]
  have : j < n * sz := by rw [← ho.1]; exact hj
  rw [if_pos this]
  simp
theorem Holds.freezeV (h : Holds Γ σ a w) {j k e sz n c : Nat} {A : Option Addr} {F : List Nat} {ds : List D} (hj : σ.bx[j]? = some (.r F (vecR e sz A n c ds))) (hk : σ.tm k = some (isD (.slice A n c))) : Holds Γ ((⟨σ.tm, yD σ.bx 0 [j]⟩ : St).put k (rwD n ds)) a w := by
 have h1 := h.drop [j]
 refine h1.learn ?_
 have hv : a.tmps.getD k undef = .slice A n c := h.tm k _ hk
 obtain ⟨h2, h3⟩ := own_at (h.resAt hj) (L' := St.L Γ ⟨σ.tm, yD σ.bx 0 [j]⟩) (fun x hx => by
  rcases List.mem_append.1 hx with hx | hx
  ·exact .inl (List.mem_append_left _ (Zw hx))
  ·exact .inl (List.mem_append_right _ hx)) (fun g hg => apart_drop h hj hg)
 exact ⟨A, c, hv, h2, h3⟩
theorem SW.freezeV {c : Code} (j k : Nat) {e sz n cp : Nat} {A : Option Addr} {F : List Nat} {ds : List D} (hj : σ.bx[j]? = some (.r F (vecR e sz A n cp ds))) (hk : σ.tm k = some (isD (.slice A n cp))) (h : SW P Γ ((⟨σ.tm, yD σ.bx 0 [j]⟩ : St).put k (rwD n ds)) c Q) : SW P Γ σ c Q := fun a w hh => h a w (hh.freezeV hj hk)
theorem SWl.freezeV {ops : Array Oper} {l : List Oper} (j k : Nat) {e sz n cp : Nat} {A : Option Addr} {F : List Nat} {ds : List D} (hj : σ.bx[j]? = some (.r F (vecR e sz A n cp ds))) (hk : σ.tm k = some (isD (.slice A n cp))) (h : SWl P Γ ops Q l ((⟨σ.tm, yD σ.bx 0 [j]⟩ : St).put k (rwD n ds))) : SWl P Γ ops Q l σ := fun a w hh => h a w (hh.freezeV hj hk)
theorem SWz.freezeV {l : List Oper} {tz : Reg.Tz} (j k : Nat) {e sz n cp : Nat} {A : Option Addr} {F : List Nat} {ds : List D} (hj : σ.bx[j]? = some (.r F (vecR e sz A n cp ds))) (hk : σ.tm k = some (isD (.slice A n cp))) (h : SWz P Γ l Q S tz ((⟨σ.tm, yD σ.bx 0 [j]⟩ : St).put k (rwD n ds))) : SWz P Γ l Q S tz σ := fun a w hh => h a w (hh.freezeV hj hk)
theorem SN.freezeV (j k : Nat) {e sz n cp : Nat} {A : Option Addr} {F : List Nat} {ds : List D} (hj : σ.bx[j]? = some (.r F (vecR e sz A n cp ds))) (hk : σ.tm k = some (isD (.slice A n cp))) (h : SN Γ Q ((⟨σ.tm, yD σ.bx 0 [j]⟩ : St).put k (rwD n ds))) : SN Γ Q σ := fun a w hh => h a w (hh.freezeV hj hk)
def Z7 (R : Res) (v : Value) (xs : List Value) : Prop := ∀ L F w, R.R L F w → ∃ A c, v = .slice A xs.length c ∧ xs.length ≤ c ∧ RV w A xs ∧ (0 < xs.length → ∀ p, A = some p → p.block ∈ F ∨ p.block ∉ L)
def viewR (v : Value) (xs : List Value) : Res where
 R L F w := (∃ A c, v = .slice A xs.length c ∧ xs.length ≤ c ∧ RV w A xs ∧ (0 < xs.length → ∀ p, A = some p → p.block ∈ F ∨ p.block ∉ L)) ∧ ∀ g ∈ F, g < w.heap.size
 lt := fun h => h.2
 keep := fun ⟨⟨A, c, h, hc, hr, ha⟩, hl⟩ ho hS hn => ⟨⟨A, c, h, hc, fun h0 => (hr.keep ho (fun p hp hm => by
  rcases ha h0 p hp with h1 | h1
  ·exact hn _ hm h1
  ·exact h1 (hS _ hm))) h0, ha⟩, fun g hg => Nat.lt_of_lt_of_le (hl g hg) ho.size⟩
 less := fun ⟨⟨A, c, h, hc, hr, ha⟩, hl⟩ hS => ⟨⟨A, c, h, hc, hr, fun h0 p hp => by
  rcases ha h0 p hp with h1 | h1
  ·exact .inl h1
  ·right
   intro hm
   obtain ⟨g', o', e, hlt, _⟩ := hr h0
   rw [e] at hp
   injection hp with hp
   subst hp
   rcases hS _ hm with h' | h'
   ·exact h1 h'
   ·simp only at h'; omega⟩, hl⟩
theorem isView_view (v : Value) (xs : List Value) : Z7 (viewR v xs) v xs := fun _ _ _ h => h.1
theorem Holds.look (h : Holds Γ σ a w) {k : Nat} {xs : List Value} (hk : σ.tm k = some (slD xs)) : ∃ v, Holds Γ ((⟨σ.tm, σ.bx ++ [.r [] (viewR v xs)]⟩ : St).put k (isD v)) a w := by
 obtain ⟨A, c, hv, hc, hr, ha⟩ := h.tm k _ hk
 refine ⟨.slice A xs.length c, ?_⟩
 have h1 := h.more (Only.refl [] w) (b := .r [] (viewR (.slice A xs.length c) xs)) ⟨⟨A, c, rfl, hc, hr, fun h0 p hp => .inr (ha h0 p hp)⟩, by simp⟩ (by simp [Box.fp]) (by simp [Box.fp])
 exact h1.learn hv
theorem SW.look {c : Code} (k : Nat) {xs : List Value} (hk : σ.tm k = some (slD xs)) (h : ∀ v, SW P Γ ((⟨σ.tm, σ.bx ++ [.r [] (viewR v xs)]⟩ : St).put k (isD v)) c Q) : SW P Γ σ c Q := fun a w hh => by
 obtain ⟨v, h1⟩ := hh.look hk
 exact h v a w h1
def Src (Γ : Cx) (σ : St) (y : Operand) (m : Nat) (es : List D) : Prop := ∀ a w, Holds Γ σ a w → ∃ B cy, a.eval y = .slice B m cy ∧ m ≤ cy ∧ (0 < es.length → ∃ g o, B = some ⟨g, o, none⟩ ∧ ∃ cs, All (σ.L Γ) w es cs ∧ ∀ j, j < cs.length → w.cell? ⟨g, o + j, none⟩ = cs[j]?)
theorem Src.of {y : Operand} {m : Nat} {es : List D} {dx : D} (hy : σ.ev y = some dx) (hl : Le dx (rwD m es)) : Src Γ σ y m es := fun a w hh => by
 obtain ⟨B, cy, hyv, hcy, hat⟩ := hl _ _ _ (zD hh hy)
 refine ⟨B, cy, hyv, hcy, fun h0 => ?_⟩
 obtain ⟨g, o, e, _, _, cs, h1, h2⟩ := hat h0
 exact ⟨g, o, e, cs, h1, h2⟩
theorem Src.view {y : Operand} {xs : List Value} {v : Value} {F : List Nat} {R : Res} (j : Nat) (hy : σ.ev y = some (isD v)) (hj : σ.bx[j]? = some (.r F R)) (hR : Z7 R v xs) : Src Γ σ y xs.length (xs.map isD) := fun a w hh => by
 have hyv : a.eval y = v := zD hh hy
 obtain ⟨A, c, hv, hc, hr, _⟩ := hR _ _ _ (hh.resAt hj)
 refine ⟨A, c, by rw [hyv, hv], hc, fun h0 => ?_⟩
 obtain ⟨g, o, e, _, h2⟩ := hr (by simpa using h0)
 exact ⟨g, o, e, xs, all_is xs, h2⟩
theorem Ef.appS {x y : Operand} {T e k n c m : Nat} {A : Option Addr} {F : List Nat} {ds es : List D} [Ones es] (j sz bytes : Nat) (hx : σ.ev x = some (isD (.slice A n c))) (hj : σ.bx[j]? = some (.r F (vecR e sz A n c ds))) (hsrc : Src Γ σ y m es) (hm : es.length = m * sz) (hT : Zr P T e = true) (hE : elT P e sz bytes = true) (h0 : 0 < m) (hsz : 0 < sz) (hlen : n + m ≤ 1099511627776) (hb : bytes ≤ 128) (hS : ∀ g ∈ F, g ∈ S) (hk : yk Γ.nt k = true) :
  Ef P Γ S ⟨some k, .call { callee := .builtin .append, args := #[x, y], argTypes := #[T, T] }, ty, pos, af, gd⟩ σ (fun σ' => ∃ g c', σ' = (σ.give [j] [.r [g] (vecR e sz (some ⟨g, 0, none⟩) (n + m) c' (ds ++ es))]).put k (isD (.slice (some ⟨g, 0, none⟩) (n + m) c'))) := by
 intro a w hh K Q hK
 have hxv : a.eval x = .slice A n c := zD hh hx
 obtain ⟨B, cy, hyv, hcy, hat⟩ := hsrc a w hh
 obtain ⟨i, z, hI, h1, h2, h3, h4⟩ := elT_spec hE
 obtain ⟨xs, ha, hown, hF⟩ := hh.resAt hj
 have hpos : 0 < es.length := by rw [hm]; exact Nat.mul_pos h0 hsz
 obtain ⟨gb, ob, rfl, cs, hcs, hcell⟩ := hat hpos
 have hlc := hcs.length
 obtain ⟨v', w', hrun, ho2, hgr, hnil, hblk⟩ := run_append_own_at (P := P) w 0 T ty e i z sz bytes (yg hT) hI h3 h1 h2 h4 hsz _ _ xs hown ⟨gb, ob, none⟩ m cy cs (by rw [hlc, hm]) (fun q u hq => by
  have hq1 := (List.getElem?_eq_some_iff.1 hq).1
  rw [Addr.add_mid, hcell q hq1]
  exact hq) (fun u hu => Ones.h (ds := es) _ _ _ hcs u hu) (by simp only [maxLen]; omega) (by have := Nat.mul_le_mul hlen hb; omega) (Nat.zero_le _)
 have hOn : Only F w w' := by rw [hF]; exact Only.of_grown hgr
 have hFL : ∀ x ∈ F, x ∈ σ.L Γ := fun x hx => List.mem_append_left _ (mem_fps.2 ⟨_, List.mem_of_getElem? hj, hx⟩)
 have hsub : SubBx σ.bx [j] [.r F (vecR e sz A n c ds)] := ⟨⟨_, hj, yp _⟩, trivial⟩
 have hfp : fps [Box.r F (vecR e sz A n c ds)] = F := by simp [fps, Box.fp]
 rcases ho2.2 with ⟨hv, hz⟩ | ⟨g, cap, cur, rfl, hg0, hg, hnc, hcm, hcs2, htk⟩
 ·omega
 ·have hgF : g ∈ F ∨ w.heap.size ≤ g := by
   rcases hblk with hb | hb
   ·left
    rw [hF, ← hb]
    simp [Value.ownBlock]
   ·right
    simp [Value.ownBlock] at hb
    omega
  have hL : ∀ x ∈ [g] ++ (σ.L Γ).filter (· ∉ F), x ∈ σ.L Γ ∨ w.heap.size ≤ x := fun x hx => by
   rcases List.mem_append.1 hx with hx | hx
   ·rw [List.mem_singleton.1 hx]
    rcases hgF with h | h
    ·exact .inl (hFL g h)
    ·exact .inr h
   ·exact .inl (List.mem_filter.1 hx).1
  have hall : All ([g] ++ (σ.L Γ).filter (· ∉ F)) w' (ds ++ es) (xs ++ cs) := by
   have h5 : All (σ.L Γ ++ ([g] ++ (σ.L Γ).filter (· ∉ F))) w' (ds ++ es) (xs ++ cs) := by
    refine ((ha.append hcs).less (fun x hx => ?_)).keep hOn (fun x hx => List.mem_append_left _ (hFL x hx))
    rcases List.mem_append.1 hx with hx | hx
    ·exact .inl hx
    ·exact hL x hx
   exact h5.less (fun x hx => .inl (List.mem_append_right _ hx))
  obtain ⟨h6, h7⟩ := hh.give (post := [.r [g] (vecR e sz (some ⟨g, 0, none⟩) (n + m) cap (ds ++ es))]) hsub (by rw [hfp]; exact hOn) (fun b hb => by
   rw [List.mem_singleton.1 hb]
   refine ⟨xs ++ cs, ?_, ho2, rfl⟩
   rw [hfp]
   exact hall) (by simp [fps, Box.fp]) (fun x hx => by
   have hx : x = g := by simpa [fps, Box.fp] using hx
   rw [hfp, hx]
   exact hgF)
  have e2 : (execOp a.eval ⟨some k, .call { callee := .builtin .append, args := #[x, y], argTypes := #[T, T] }, ty, pos, af, gd⟩).run P w = .ok (.value (.slice (some ⟨g, 0, none⟩) (n + m) cap)) w' := by
   simp only [execOp, resolve, invoke, builtin, Sem.run_bind, Sem.run_pure, Result.andThen_ok, List.map_toArray, List.map_cons, List.map_nil, hxv, hyv, hrun]
  unfold Oper.wp
  rw [e2]
  exact hK _ _ _ ⟨g, cap, rfl⟩ (h6.put (by simpa [yk] using hk) rfl) (hOn.mono (fun x hx _ => hS x hx))
end
end Sx
end Go.Proofs.YtgokpcnabgacnaaGreatDoor
namespace Go.Proofs.YtgokpcnabgacnaaGreatDoor
open Go.RowKit
namespace Sx
class Row {α : Type} (enc : α → List D) (sz : outParam Nat) : Prop where
 len : ∀ x, (enc x).length = sz
 ones : ∀ x, Ones (enc x)
 pos : 0 < sz
section
variable {α : Type} {enc : α → List D} {sz : Nat}
theorem flat_len [Row enc sz] : ∀ (l : List α), (l.flatMap enc).length = l.length * sz
 | [] => by simp
 | x :: l => by rw [List.flatMap_cons, List.length_append, flat_len l, Row.len (enc := enc) x, List.length_cons, Nat.succ_mul]; omega
instance flat_ones [Row enc sz] (l : List α) : Ones (l.flatMap enc) := ⟨fun d hd => by
 obtain ⟨x, _, h⟩ := List.mem_flatMap.1 hd
 exact (Row.ones (enc := enc) (sz := sz) x).m d h⟩
theorem flat_drop [Row enc sz] : ∀ (l : List α) (i : Nat) (x : α), l[i]? = some x → (l.flatMap enc).drop (i * sz) = enc x ++ (l.drop (i + 1)).flatMap enc
 | [], i, x, h => by simp at h
 | y :: l, 0, x, h => by
  simp at h
  subst h
  simp
 | y :: l, i + 1, x, h => by
  simp at h
  have e : (i + 1) * sz = (enc y).length + i * sz := by rw [Row.len (enc := enc) (sz := sz) y, Nat.succ_mul]; omega
  rw [List.flatMap_cons, e, ← List.drop_drop, List.drop_left]
  simpa using flat_drop l i x h
theorem flat_at [Row enc sz] {l : List α} {i o : Nat} {x : α} {d : D} (h : l[i]? = some x) (hd : (enc x)[o]? = some d) : (l.flatMap enc)[i * sz + o]? = some d := by
 have h1 := flat_drop (enc := enc) (sz := sz) l i x h
 rw [← List.getElem?_drop, h1, List.getElem?_append_left (List.getElem?_eq_some_iff.1 hd).1]
 exact hd
end
abbrev lsD {α : Type} (enc : α → List D) (l : List α) : D := rwD l.length (l.flatMap enc)
abbrev yb {α : Type} (e sz : Nat) (enc : α → List D) (A : Option Addr) (c : Nat) (l : List α) : Res := vecR e sz A l.length c (l.flatMap enc)
abbrev SrcT {α : Type} (Γ : Cx) (σ : St) (y : Operand) (enc : α → List D) (l : List α) : Prop := Src Γ σ y l.length (l.flatMap enc)
def Z2 (x : UInt8) : List D := [isD (B8 x)]
instance : Row Z2 1 := ⟨fun _ => rfl, fun x => by unfold Z2; infer_instance, by decide⟩
theorem Z4 : ∀ (b : List UInt8), b.flatMap Z2 = (cellsOf b).map isD
 | [] => rfl
 | x :: b => by rw [List.flatMap_cons, Z4 b]; rfl
theorem le_b_ls (b : List UInt8) : Le (slD (cellsOf b)) (lsD Z2 b) := by
 unfold lsD
 rw [Z4]
 have := le_sl_rw (xs := cellsOf b)
 rw [zv] at this
 exact this
theorem le_ls_b (b : List UInt8) : Le (lsD Z2 b) (slD (cellsOf b)) := by
 unfold lsD
 rw [Z4]
 have := le_rw_sl (xs := cellsOf b)
 rw [zv] at this
 exact this
def encL (b : List UInt8) : List D := [bD b]
instance : Row encL 1 := ⟨fun _ => rfl, fun x => by unfold encL; infer_instance, by decide⟩
def encI (n : Int) : List D := [iD n]
instance : Row encI 1 := ⟨fun _ => rfl, fun x => by unfold encI; infer_instance, by decide⟩
def Zb (s : List UInt8) : List D := [yt s]
instance : Row Zb 1 := ⟨fun _ => rfl, fun x => by unfold Zb; infer_instance, by decide⟩
instance (m : Option Nat) : One (isD (.map m)) := ⟨fun _ _ _ h => by cases h; rfl⟩
theorem ZN {e sz n n' c : Nat} {A : Option Addr} {ds ds' : List D} (hn : n = n') (hd : ds = ds') : LeR (vecR e sz A n c ds) (vecR e sz A n' c ds') := by subst hn hd; exact yp _
theorem leMap {M : Option Nat} {κ : Type} {enc : κ → Value} {ks ks' : List κ} {ds ds' : List D} (hn : ks = ks') (hd : ds = ds') : LeR (mapR M enc ks ds) (mapR M enc ks' ds') := by subst hn hd; exact yp _
section
variable {P : Program} {Γ : Cx} {σ : St} {S : List Nat} {dst : Option Tmp} {ty : TypeId} {pos : String} {af : Array Edge} {gd : Option (Nat × Bool)} {d : D} {Q : Exit → Act → World → Prop} {a : Act} {w : World}
theorem zw {x : Operand} {p : Addr} (hx : σ.ev x = some (isD (.pointer (some p)))) : Rd P Γ S ⟨dst, .nilCheck x, ty, pos, af, gd⟩ σ (isD (.pointer (some p))) := by
 intro a w hh
 have hv : a.eval x = .pointer (some p) := zD hh hx
 exact ⟨_, rfl, fun w' _ => by simp [execOp, hv]⟩
def ptrT (P : Program) (T : Nat) : Bool := match P.underlying T with | some (.pointer _) => true | _ => false
theorem ptrT_spec {T : Nat} (h : ptrT P T = true) : P.underlying T = some (.pointer (P.pointee T)) := by
 unfold ptrT at h
 split at h
 ·rename_i e hu
  simp [Program.pointee, hu]
 ·cases h
theorem Z0 {x y : Operand} {T yT : Nat} {p : Option Addr} (hx : σ.ev x = some (isD (.pointer p))) (hy : σ.ev y = some (isD (.pointer none))) (hT : ptrT P T = true) : Rd P Γ S ⟨dst, .binOp .eql T x y yT, ty, pos, af, gd⟩ σ (isD (.bool p.isNone)) := ZM hx hy fun w => by
 simp [eqGuard, binOp, run_equal_pointer_nil w T p (ptrT_spec hT)]
theorem Rd.neP {x y : Operand} {T yT : Nat} {p : Option Addr} (hx : σ.ev x = some (isD (.pointer p))) (hy : σ.ev y = some (isD (.pointer none))) (hT : ptrT P T = true) : Rd P Γ S ⟨dst, .binOp .neq T x y yT, ty, pos, af, gd⟩ σ (isD (.bool (!p.isNone))) := ZM hx hy fun w => by
 simp [eqGuard, binOp, run_equal_pointer_nil w T p (ptrT_spec hT)]
theorem Rd.eqN {x y : Operand} {T e yT n c : Nat} {A : Option Addr} (hx : σ.ev x = some (isD (.slice A n c))) (hy : σ.ev y = some (isD (.slice none 0 0))) (hT : Zr P T e = true) : Rd P Γ S ⟨dst, .binOp .eql T x y yT, ty, pos, af, gd⟩ σ (isD (.bool A.isNone)) := ZM hx hy fun w => by
 simp [eqGuard, binOp, run_equal_slice_nil w T e A n c (yg hT)]
theorem Ef.boxL {x : Operand} {T : Nat} {ds : List D} {dx : D} {k : Nat} (hx : σ.ev x = some dx) (hl : Le dx (yX ds)) (hk : yk Γ.nt k = true) : Ef P Γ S ⟨some k, .box T x, ty, pos, af, gd⟩ σ (fun σ' => ∃ g, σ' = (σ.mk' g ds).put k (pA g)) := by
 intro a w hh K Q hK
 obtain ⟨cs, hv, ha⟩ := hl _ _ _ (zD hh hx)
 have h1 := (hh.box (t := T) ha).put (i := k) (by simpa [yk] using hk) (d := pA w.heap.size) (v := .pointer (some ⟨w.heap.size, 0, none⟩)) rfl
 have e : (execOp a.eval ⟨some k, .box T x, ty, pos, af, gd⟩).run P w = .ok (.value (.pointer (some ⟨w.heap.size, 0, none⟩))) (w.alloc (.cells cs.toArray T)) := by
  simp [execOp, hv, Instr.box, newVar, newRow, agg_cells]
 unfold Oper.wp
 rw [e]
 exact hK _ _ _ ⟨_, rfl⟩ h1 ((Only.refl S w).alloc _)
instance ones_cells (b : List UInt8) : Ones ((cellsOf b).map isD) := ⟨fun d hd => by
 obtain ⟨v, hv, rfl⟩ := List.mem_map.1 hd
 obtain ⟨x, _, rfl⟩ := List.mem_map.1 hv
 exact fun _ _ _ h => by cases h; rfl⟩
theorem le_g_agg (b : List UInt8) : Le (gD b) (yX ((cellsOf b).map isD)) := le_is_agg
theorem le_agg_g (b : List UInt8) : Le (yX ((cellsOf b).map isD)) (gD b) := le_agg_is
theorem ZT {x y : Operand} {T g : Nat} (j n : Nat) {b c : List UInt8} (hx : σ.ev x = some (pA g)) (hy : σ.ev y = some (gD b)) (hj : σ.bx[j]? = some (.c g ((cellsOf c).map isD))) (hT : sizeT P T n = true) (hb : b.length = n) (hc : c.length = n) (hS : g ∈ S) :
  Ef P Γ S ⟨none, .store T x y, ty, pos, af, gd⟩ σ (fun σ' => σ' = σ.set j ((cellsOf b).map isD)) := by
 intro a w hh K Q hK
 have hyv : a.eval y = .agg (cellsOf b).toArray := zD hh hy
 have hxv : a.eval x = .pointer (some ⟨g, 0, none⟩) := zD hh hx
 obtain ⟨t, cs, hbk, ha⟩ := hh.boxAt hj
 have h1 := ha.length
 simp only [List.length_map, zv] at h1
 obtain ⟨h4, h5⟩ := Zc (cellsOf b) 0 cs w hbk (by simp; omega)
 have hth : w.there g 0 (cellsOf b).toArray.size := fun i hi => by
  have hi' : i < b.length := by simpa using hi
  refine ⟨?_, hbk.frozen _⟩
  rw [hbk.cell, List.getElem?_eq_getElem o9]
  rfl
 have hsz : (P.info? T).map (·.size) = some (cellsOf b).toArray.size := by
  unfold sizeT at hT
  rw [beq_iff_eq] at hT
  rw [hT]
  simp [hb]
 have e : (execOp a.eval ⟨none, .store T x y, ty, pos, af, gd⟩).run P w = .ok .skip (w.setCells g 0 (cellsOf b)) := by
  have h6 := run_storeAt_mid (P := P) w g 0 T (cellsOf b).toArray hth hsz (by
   rw [Array.all_eq_true_iff_forall_mem]
   exact fun v hv => Zf v (by simpa using hv))
  simp [execOp, hxv, hyv, h6]
 unfold Oper.wp
 rw [e]
 have hall : All (σ.L Γ) w ((cellsOf b).map isD) (cs.take 0 ++ (cellsOf b ++ cs.drop (0 + (cellsOf b).length))) := by
  have : cs.drop (0 + (cellsOf b).length) = [] := List.drop_eq_nil_of_le (by simp; omega)
  rw [this]
  simpa using all_is (cellsOf b)
 exact hK _ _ _ rfl (hh.set hj h4 h5 hall) (h5.mono (by intro z hz _; simp at hz; subst hz; exact hS))
theorem Rd.loadG {x : Operand} {T g : Nat} (j n : Nat) {b : List UInt8} (hx : σ.ev x = some (pA g)) (hj : σ.bx[j]? = some (.c g ((cellsOf b).map isD))) (hT : rowT P T n = true) (hb : b.length = n) (hS : Ap σ j S) : Rd P Γ S ⟨dst, .load T x, ty, pos, af, gd⟩ σ (gD b) := by
 have h := zG (P := P) (Γ := Γ) (dst := dst) (ty := ty) (pos := pos) (af := af) (gd := gd) j n hx hj hT (by simp [hb]) hS
 refine h.le ?_
 have e : (((cellsOf b).map isD).drop 0).take n = (cellsOf b).map isD := by
  rw [List.drop_zero, List.take_of_length_le (by simp [hb])]
 rw [e]
 exact le_agg_g b
theorem Rd.slArr {x : Operand} {T e g n : Nat} (hx : σ.ev x = some (pA g)) (hT : arrT P T e n = true) (hs : ((P.info? e).map (·.size)).isSome = true) :
  Rd P Γ S ⟨dst, .slice T x none none none, ty, pos, af, gd⟩ σ (isD (.slice (some ⟨g, 0, none⟩) n n)) := by
 intro a w hh
 have hxv : a.eval x = .pointer (some ⟨g, 0, none⟩) := zD hh hx
 refine ⟨_, rfl, fun w' _ => ?_⟩
 obtain ⟨sz, hsz⟩ := Option.isSome_iff_exists.1 hs
 obtain ⟨inf, hi', hsz⟩ := Option.map_eq_some_iff.1 hsz
 simp [execOp, hxv, Instr.sliceAt, Instr.sureAddr, Instr.sliceBounds, run_underlying (arrT_spec hT), sizeOf, typeInfo, hi', Addr.add]
theorem SrcT.ls {α : Type} {enc : α → List D} {y : Operand} {l : List α} (hy : σ.ev y = some (lsD enc l)) : SrcT Γ σ y enc l := Src.of hy (zf _)
theorem SrcT.le {α : Type} {enc : α → List D} {y : Operand} {l : List α} {dy : D} (hy : σ.ev y = some dy) (hl : Le dy (lsD enc l)) : SrcT Γ σ y enc l := Src.of hy hl
theorem SrcT.b {y : Operand} {b : List UInt8} (hy : σ.ev y = some (bD b)) : SrcT Γ σ y Z2 b := Src.of hy (le_b_ls b)
theorem SrcT.view {y : Operand} {b : List UInt8} {v : Value} {F : List Nat} (j : Nat) (hy : σ.ev y = some (isD v)) (hj : σ.bx[j]? = some (.r F (viewR v (cellsOf b)))) : SrcT Γ σ y Z2 b := by
 have := Src.view (Γ := Γ) (σ := σ) (y := y) j hy hj (isView_view v (cellsOf b))
 unfold SrcT
 rw [Z4]
 rw [zv] at this
 exact this
theorem SrcT.box {y : Operand} {b : List UInt8} {g n : Nat} (j : Nat) (hy : σ.ev y = some (isD (.slice (some ⟨g, 0, none⟩) n n))) (hj : σ.bx[j]? = some (.c g ((cellsOf b).map isD))) (hn : b.length = n) : SrcT Γ σ y Z2 b := fun a w hh => by
 have hyv : a.eval y = .slice (some ⟨g, 0, none⟩) n n := zD hh hy
 obtain ⟨t, cs, hb, ha⟩ := hh.boxAt hj
 refine ⟨_, n, by rw [hyv, hn], by omega, fun _ => ⟨g, 0, rfl, cs, by rw [Z4]; exact ha, fun j hj => ?_⟩⟩
 rw [Nat.zero_add, hb.cell]
theorem SrcT.nil {α : Type} {enc : α → List D} {y : Operand} {c : Nat} {A : Option Addr} (hy : σ.ev y = some (isD (.slice A 0 c))) : SrcT Γ σ y enc [] := fun a w hh => by
 have hyv : a.eval y = .slice A 0 c := zD hh hy
 exact ⟨A, c, hyv, Nat.zero_le _, fun h => by simp at h⟩
theorem SrcT.vec {α : Type} {enc : α → List D} {y : Operand} {l : List α} {F : List Nat} {e sz c : Nat} {A : Option Addr} (j : Nat) (hy : σ.ev y = some (isD (.slice A l.length c))) (hj : σ.bx[j]? = some (.r F (yb e sz enc A c l))) : SrcT Γ σ y enc l := fun a w hh => by
 have hyv : a.eval y = .slice A l.length c := zD hh hy
 obtain ⟨xs, ha, ho, hF⟩ := hh.resAt hj
 rcases ho.2 with ⟨hv, hn⟩ | ⟨g, cap, cur, hv, _, hg, hnc, _, hcs, htk⟩
 ·injection hv with h1 h2 h3
  refine ⟨A, c, hyv, by omega, fun h0 => ?_⟩
  have : l = [] := List.length_eq_zero_iff.1 h2
  subst this
  simp at h0
 ·injection hv with h1 h2 h3
  subst h1 h3
  refine ⟨_, c, hyv, hnc, fun h0 => ⟨g, 0, rfl, xs, ha, fun j hj => ?_⟩⟩
  have hb : w.cell? ⟨g, 0 + j, none⟩ = cur[j]? := by simp [World.cell?, hg]
  rw [hb, ← htk, List.getElem?_take]
  have : j < l.length * sz := by rw [← ho.1]; exact hj
  rw [if_pos this]
  simp
theorem SW.vecN {c : Code} {α : Type} (e sz : Nat) (enc : α → List D) (h : SW P Γ ⟨σ.tm, σ.bx ++ [.r [] (yb e sz enc none 0 [])]⟩ c Q) : SW P Γ σ c Q := fun a w hh => h a w (vec_nil e sz hh)
theorem SWl.vecN {ops : Array Oper} {l : List Oper} {α : Type} (e sz : Nat) (enc : α → List D) (h : SWl P Γ ops Q l ⟨σ.tm, σ.bx ++ [.r [] (yb e sz enc none 0 [])]⟩) : SWl P Γ ops Q l σ := fun a w hh => h a w (vec_nil e sz hh)
theorem SWz.vecN {l : List Oper} {tz : Reg.Tz} {α : Type} (e sz : Nat) (enc : α → List D) (h : SWz P Γ l Q S tz ⟨σ.tm, σ.bx ++ [.r [] (yb e sz enc none 0 [])]⟩) : SWz P Γ l Q S tz σ := fun a w hh => h a w (vec_nil e sz hh)
theorem Za {x y : Operand} {T e k c : Nat} {A : Option Addr} {F : List Nat} {α : Type} {enc : α → List D} {l l' : List α} (j sz bytes : Nat) [Row enc sz] (hx : σ.ev x = some (isD (.slice A l.length c))) (hj : σ.bx[j]? = some (.r F (yb e sz enc A c l))) (hsrc : SrcT Γ σ y enc l') (hT : Zr P T e = true) (hE : elT P e sz bytes = true) (hlen : l.length + l'.length ≤ 1099511627776) (hb : bytes ≤ 128) (hS : ∀ g ∈ F, g ∈ S) (hk : yk Γ.nt k = true) :
  Ef P Γ S ⟨some k, .call { callee := .builtin .append, args := #[x, y], argTypes := #[T, T] }, ty, pos, af, gd⟩ σ (fun σ' => ∃ A' F' c', σ' = (σ.give [j] [.r F' (yb e sz enc A' c' (l ++ l'))]).put k (isD (.slice A' (l ++ l').length c'))) := by
 cases l' with
 | nil =>
  intro a w hh K Q hK
  have hxv : a.eval x = .slice A l.length c := zD hh hx
  obtain ⟨B, cy, hyv, hcy, hat⟩ := hsrc a w hh
  obtain ⟨i, z, hI, h1, h2, h3, h4⟩ := elT_spec hE
  obtain ⟨xs, ha, hown, hF⟩ := hh.resAt hj
  have hnc : l.length ≤ c := by
   rcases hown.2 with ⟨hv, hn⟩ | ⟨g, cap, cur, hv, _, hg, hnc, _⟩
   ·injection hv with h1 h2 h3; omega
   ·injection hv with h1 h2 h3; omega
  have hsub : SubBx σ.bx [j] [.r F (yb e sz enc A c l)] := ⟨⟨_, hj, yp _⟩, trivial⟩
  have hfp : fps [Box.r F (yb e sz enc A c l)] = F := by simp [fps, Box.fp]
  have h5 := (hh.give (w' := w) (post := [.r F (yb e sz enc A c l)]) hsub (Only.refl _ w) (fun b hb => by
   rw [List.mem_singleton.1 hb]
   refine (yb e sz enc A c l).less (hh.resAt hj) (fun x hx => ?_)
   rw [hfp] at hx
   rcases List.mem_append.1 hx with hx | hx
   ·exact .inl (List.mem_append_left _ (mem_fps.2 ⟨_, List.mem_of_getElem? hj, hx⟩))
   ·exact .inl (List.mem_filter.1 hx).1) (by rw [hfp]; exact fp_nodup hh.nd (List.mem_of_getElem? hj)) (fun g hg => .inl hg)).1
  have e2 : (execOp a.eval ⟨some k, .call { callee := .builtin .append, args := #[x, y], argTypes := #[T, T] }, ty, pos, af, gd⟩).run P w = .ok (.value (.slice A l.length c)) w := by
   rw [List.length_nil] at hyv
   cases B with
   | none => cases A <;> simp [execOp, resolve, invoke, builtin, hxv, hyv, Builtin.append_, run_underlying (yg hT), sizeOf, typeInfo, hI, Builtin.lenOf, Builtin.firstCells, storeCells, hnc]
   | some p => cases A <;> simp [execOp, resolve, invoke, builtin, hxv, hyv, Builtin.append_, run_underlying (yg hT), sizeOf, typeInfo, hI, Builtin.lenOf, Builtin.firstCells, storeCells, loadCells, loadCellsFrom, hnc]
  unfold Oper.wp
  rw [e2]
  have h6 := h5.put (i := k) (by simpa [yk] using hk) (d := isD (.slice A l.length c)) (v := .slice A l.length c) rfl
  refine hK _ _ _ ⟨A, F, c, ?_⟩ h6 (Only.refl _ w)
  rw [List.append_nil]
 | cons v l' =>
  have h := Ef.appS (P := P) (Γ := Γ) (S := S) (ty := ty) (pos := pos) (af := af) (gd := gd) (k := k) j sz bytes hx hj hsrc (flat_len (enc := enc) (sz := sz) _) hT hE s9 (Row.pos (enc := enc)) hlen hb hS hk
  intro a w hh K Q hK
  refine h a w hh K Q fun σ' a' w' ⟨g, c', hT'⟩ hh' ho => hK σ' a' w' ⟨some ⟨g, 0, none⟩, [g], c', ?_⟩ hh' ho
  rw [hT']
  unfold yb
  rw [List.length_append, List.flatMap_append]
theorem Ef.makeT {x y : Operand} {T e k c : Nat} {ci : Int} {α : Type} (enc : α → List D) (sz bytes : Nat) (hx : σ.ev x = some (isD (.int .i64 0))) (hy : σ.ev y = some (isD (.int .i64 ci))) (hT : Zr P T e = true) (hE : elT P e sz bytes = true) (hc : ci = (c : Int)) (hn : c ≤ 1099511627776) (hb : bytes ≤ 128) (hk : yk Γ.nt k = true) :
  Ef P Γ S ⟨some k, .makeSlice T x y, ty, pos, af, gd⟩ σ (fun σ' => ∃ g, σ' = (⟨σ.tm, σ.bx ++ [.r [g] (yb e sz enc (some ⟨g, 0, none⟩) c [])]⟩ : St).put k (isD (.slice (some ⟨g, 0, none⟩) 0 c))) := Ef.makeV sz bytes hx hy hT hE hc hn hb hk
theorem Ef.lit0 {T e k : Nat} {α : Type} (enc : α → List D) (sz bytes : Nat) (hT : Zr P T e = true) (hE : elT P e sz bytes = true) (hk : yk Γ.nt k = true) :
  Ef P Γ S ⟨some k, .buildSlice T 0 #[], ty, pos, af, gd⟩ σ (fun σ' => ∃ g, σ' = (⟨σ.tm, σ.bx ++ [.r [g] (yb e sz enc (some ⟨g, 0, none⟩) 0 [])]⟩ : St).put k (isD (.slice (some ⟨g, 0, none⟩) 0 0))) := by
 intro a w hh K Q hK
 obtain ⟨i, z, hI, h1, h2, h3, h4⟩ := elT_spec hE
 have e2 : (execOp a.eval ⟨some k, .buildSlice T 0 #[], ty, pos, af, gd⟩).run P w = .ok (.value (.slice (some ⟨w.heap.size, 0, none⟩) 0 0)) (w.alloc (.cells #[] e)) := by
  simp [execOp, Instr.buildSlice, run_underlying (yg hT), typeInfo, hI, h3, zeroValue, sizeOf, Instr.fill, newRow]
  have hr : Array.range 0 = #[] := rfl
  simp [hr]
 have h5 := hh.more ((Only.refl [] w).alloc (.cells #[] e)) (b := .r [w.heap.size] (yb e sz enc (some ⟨w.heap.size, 0, none⟩) 0 [])) ⟨[], trivial, ⟨by simp, .inr ⟨w.heap.size, 0, _, rfl, Nat.zero_le _, heap_alloc_new w _, Nat.zero_le _, Nat.zero_le _, by simp, by simp⟩⟩, rfl⟩ (fun g hg => by rw [List.mem_singleton.1 hg]; exact Nat.le_refl _) (by simp [Box.fp])
 unfold Oper.wp
 rw [e2]
 exact hK _ _ _ ⟨_, rfl⟩ (h5.put (by simpa [yk] using hk) rfl) ((Only.refl S w).alloc _)
theorem Holds.freezeT (h : Holds Γ σ a w) {j k e sz c : Nat} {A : Option Addr} {F : List Nat} {α : Type} {enc : α → List D} {l : List α} {d' : D} (hj : σ.bx[j]? = some (.r F (yb e sz enc A c l))) (hk : σ.tm k = some (isD (.slice A l.length c))) (hl : Le (lsD enc l) d') : Holds Γ ((⟨σ.tm, yD σ.bx 0 [j]⟩ : St).put k d') a w := by
 have h1 := h.freezeV hj hk
 have h2 := h1.weak (i := k) (d := lsD enc l) (d' := d') (by rw [put_tm, if_pos rfl]) hl
 have e : (((⟨σ.tm, yD σ.bx 0 [j]⟩ : St).put k (rwD l.length (l.flatMap enc))).put k d') = ((⟨σ.tm, yD σ.bx 0 [j]⟩ : St).put k d') := by
  simp only [St.put]
  congr 1
  funext i
  cases Nat.beq i k <;> rfl
 rw [e] at h2
 exact h2
theorem SW.freezeT {cd : Code} (j k : Nat) {e sz c : Nat} {A : Option Addr} {F : List Nat} {α : Type} {enc : α → List D} {l : List α} {d' : D} (hj : σ.bx[j]? = some (.r F (yb e sz enc A c l))) (hk : σ.tm k = some (isD (.slice A l.length c))) (hl : Le (lsD enc l) d') (h : SW P Γ ((⟨σ.tm, yD σ.bx 0 [j]⟩ : St).put k d') cd Q) : SW P Γ σ cd Q := fun a w hh => h a w (hh.freezeT hj hk hl)
theorem SWl.freezeT {ops : Array Oper} {lo : List Oper} (j k : Nat) {e sz c : Nat} {A : Option Addr} {F : List Nat} {α : Type} {enc : α → List D} {l : List α} {d' : D} (hj : σ.bx[j]? = some (.r F (yb e sz enc A c l))) (hk : σ.tm k = some (isD (.slice A l.length c))) (hl : Le (lsD enc l) d') (h : SWl P Γ ops Q lo ((⟨σ.tm, yD σ.bx 0 [j]⟩ : St).put k d')) : SWl P Γ ops Q lo σ := fun a w hh => h a w (hh.freezeT hj hk hl)
theorem SWz.freezeT {lo : List Oper} {tz : Reg.Tz} (j k : Nat) {e sz c : Nat} {A : Option Addr} {F : List Nat} {α : Type} {enc : α → List D} {l : List α} {d' : D} (hj : σ.bx[j]? = some (.r F (yb e sz enc A c l))) (hk : σ.tm k = some (isD (.slice A l.length c))) (hl : Le (lsD enc l) d') (h : SWz P Γ lo Q S tz ((⟨σ.tm, yD σ.bx 0 [j]⟩ : St).put k d')) : SWz P Γ lo Q S tz σ := fun a w hh => h a w (hh.freezeT hj hk hl)
theorem SN.freezeT (j k : Nat) {e sz c : Nat} {A : Option Addr} {F : List Nat} {α : Type} {enc : α → List D} {l : List α} {d' : D} (hj : σ.bx[j]? = some (.r F (yb e sz enc A c l))) (hk : σ.tm k = some (isD (.slice A l.length c))) (hl : Le (lsD enc l) d') (h : SN Γ Q ((⟨σ.tm, yD σ.bx 0 [j]⟩ : St).put k d')) : SN Γ Q σ := fun a w hh => h a w (hh.freezeT hj hk hl)
theorem yK {x y : Operand} {T e : Nat} {kd : IntKind} {i : Int} {α : Type} {enc : α → List D} {l : List α} {v : α} (sz : Nat) [Row enc sz] (hx : σ.ev x = some (lsD enc l)) (hy : σ.ev y = some (isD (.int kd i))) (hT : Zr P T e = true) (hs : (P.info? e).map (·.size) = some sz) (h0 : 0 ≤ i) (hv : l[i.toNat]? = some v) :
  Rd P Γ S ⟨dst, .indexAddr T x y, ty, pos, af, gd⟩ σ (paD (enc v)) := by
 have hi := (List.getElem?_eq_some_iff.1 hv).1
 have h := Rd.idxR (P := P) (Γ := Γ) (S := S) (dst := dst) (ty := ty) (pos := pos) (af := af) (gd := gd) sz hx hy hT hs h0 o9 (by
  rw [flat_len (enc := enc) (sz := sz)]
  exact Nat.mul_lt_mul_of_pos_right hi (Row.pos (enc := enc)))
 refine h.le ?_
 rw [flat_drop (enc := enc) (sz := sz) l i.toNat v hv]
 rintro L w u ⟨p, hp, ha⟩
 refine ⟨p, hp, fun h0 => ?_⟩
 obtain ⟨g, o, e, hg, hn, cs, h1, h2⟩ := ha (by rw [List.length_append]; omega)
 refine ⟨g, o, e, hg, hn, cs.take (enc v).length, ?_, fun j hj => ?_⟩
 ·have := h1.take (enc v).length
  rwa [List.take_left] at this
 ·rw [List.length_take] at hj
  rw [h2 j o9, List.getElem?_take, if_pos o9]
def elP (A : Option Addr) (k : Nat) : Value := .pointer (A.map fun p => ⟨p.block, p.off + k, p.spot⟩)
theorem vec_some {L F : List Nat} {e sz n c : Nat} {A : Option Addr} {ds : List D} (h : (vecR e sz A n c ds).R L F w) (h0 : 0 < n) : ∃ g cur xs, A = some ⟨g, 0, none⟩ ∧ F = [g] ∧ w.heap[g]? = some (.cells cur e (0, 0)) ∧ n ≤ c ∧ c ≤ maxLen ∧ cur.size = c * sz ∧ cur.toList.take (n * sz) = xs ∧ xs.length = n * sz ∧ All L w ds xs := by
 obtain ⟨xs, ha, ho, hF⟩ := h
 rcases ho.2 with ⟨hv, hn⟩ | ⟨g, cap, cur, hv, _, hg, hnc, hm, hcs, htk⟩
 ·omega
 ·injection hv with h1 h2 h3
  subst h1 h3
  exact ⟨g, cur, xs, rfl, by rw [hF]; rfl, hg, hnc, hm, hcs, htk, ho.1, ha⟩
theorem Rd.idxT {x y : Operand} {T e c : Nat} {kd : IntKind} {i : Int} {A : Option Addr} {F : List Nat} {α : Type} {enc : α → List D} {l : List α} (j sz : Nat) (hx : σ.ev x = some (isD (.slice A l.length c))) (hj : σ.bx[j]? = some (.r F (yb e sz enc A c l))) (hy : σ.ev y = some (isD (.int kd i))) (hT : Zr P T e = true) (hs : (P.info? e).map (·.size) = some sz) (h0 : 0 ≤ i) (hi : i.toNat < l.length) :
  Rd P Γ S ⟨dst, .indexAddr T x y, ty, pos, af, gd⟩ σ (isD (elP A (i.toNat * sz))) := by
 intro a w hh
 have hxv : a.eval x = .slice A l.length c := zD hh hx
 have hyv : a.eval y = .int kd i := zD hh hy
 obtain ⟨g, cur, xs, rfl, _⟩ := vec_some (hh.resAt hj) o9
 obtain ⟨inf, hi', hsz⟩ := Option.map_eq_some_iff.1 hs
 refine ⟨_, rfl, fun w' _ => ?_⟩
 have h1 : i < (l.length : Int) := by omega
 simp [execOp, hxv, hyv, Instr.indexAt, run_underlying (yg hT), asIntOf, sizeOf, typeInfo, hi', hsz, elP, Addr.add, h0, h1]
 exact fun h => h.symm
theorem Rd.loadT1 {x : Operand} {T e c i : Nat} {A : Option Addr} {F : List Nat} {α : Type} {enc : α → List D} {l : List α} {v : α} (j : Nat) [Row enc 1] (hx : σ.ev x = some (isD (elP A (i * 1)))) (hj : σ.bx[j]? = some (.r F (yb e 1 enc A c l))) (hT : plainT P T = true) (hv : l[i]? = some v) (hd : (enc v)[0]? = some d) (hS : Ap σ j S) : Rd P Γ S ⟨dst, .load T x, ty, pos, af, gd⟩ σ d := by
 intro a w hh
 have hxv : a.eval x = elP A (i * 1) := zD hh hx
 have hi := (List.getElem?_eq_some_iff.1 hv).1
 have hR := hh.resAt hj
 obtain ⟨g, cur, xs, rfl, rfl, hg, hnc, hm, hcs, htk, hxl, ha⟩ := vec_some hR o9
 obtain ⟨u, h1, h2⟩ := ha.at (flat_at (sz := 1) hv hd)
 refine ⟨u, h2, fun w' ho => ?_⟩
 have hg' : w'.heap[g]? = some (.cells cur e (0, 0)) := (ho.block g (Array.getElem?_eq_some_iff.1 hg).1 (fun hm => hS.spec hh.nd hj g hm (List.mem_singleton.2 rfl))).trans hg
 have h3 : w'.cell? ⟨g, i * 1, none⟩ = some u := by
  rw [← htk, List.getElem?_take] at h1
  split at h1
  ·simpa [World.cell?, hg'] using h1
  ·cases h1
 have h4 := Z3 (P := P) hT h3
 simp only [execOp, hxv, elP, Option.map_some, Nat.zero_add, h4, Sem.run_bind, Result.andThen_ok, Sem.run_pure]
theorem Rs.none {fn : Func} (h : fn.results = #[]) : Rs P Γ fn σ (isD (.tuple #[])) := by
 intro a w hh
 exact ⟨_, by simp [results, h], rfl⟩
theorem ResV.cellG {p T n : Nat} (j : Nat) {g : Nat} {b : List UInt8} (h1 : σ.tm p = some (pA g)) (h2 : σ.bx[j]? = some (.c g ((cellsOf b).map isD))) (h3 : rowT P T n = true) (hb : b.length = n) : ResV σ P (.cell p T) (yX ((cellsOf b).map isD)) := ⟨j, g, _, h1, h2, .inl ⟨by simp only [List.length_map, zv, hb]; exact h3, rfl⟩⟩
end
theorem fin_nil {S : List Nat} : ∀ g ∈ fps [], g ∈ S := fun _ h => by simp [fps] at h
theorem fin_c {S : List Nat} {g : Nat} {ds : List D} {bs : List Box} (h : g ∈ S) (k : ∀ x ∈ fps bs, x ∈ S) : ∀ x ∈ fps (.c g ds :: bs), x ∈ S := fun x hx => by
 rw [Zm] at hx
 rcases List.mem_append.1 hx with hx | hx
 ·rw [List.mem_singleton.1 hx]; exact h
 ·exact k x hx
theorem fin_r {S F : List Nat} {R : Res} {bs : List Box} (h : ∀ x ∈ F, x ∈ S) (k : ∀ x ∈ fps bs, x ∈ S) : ∀ x ∈ fps (.r F R :: bs), x ∈ S := fun x hx => by
 rw [Zm] at hx
 rcases List.mem_append.1 hx with hx | hx
 ·exact h x hx
 ·exact k x hx
def lenD (n : Nat) : D := ⟨fun _ _ v => ∃ A c, v = .slice A n c, fun h _ _ => h, fun h _ => h⟩
instance (n : Nat) : One (lenD n) := ⟨fun _ _ _ h => by obtain ⟨A, c, rfl⟩ := h; rfl⟩
theorem le_is_len {A : Option Addr} {n c : Nat} : Le (isD (.slice A n c)) (lenD n) := fun _ _ _ h => ⟨A, c, h⟩
theorem le_b_len {b : List UInt8} : Le (bD b) (lenD b.length) := fun _ _ _ ⟨A, c, h, _⟩ => ⟨A, c, by rw [h, zv]⟩
section
variable {P : Program} {Γ : Cx} {σ : St} {S : List Nat} {dst : Option Tmp} {ty : TypeId} {pos : String} {af : Array Edge} {gd : Option (Nat × Bool)} {Q : Exit → Act → World → Prop}
theorem Rd.lenN {x : Operand} {T e n : Nat} (hx : σ.ev x = some (lenD n)) (hT : Zr P T e = true) : Rd P Γ S ⟨dst, .call { callee := .builtin .len, args := #[x], argTypes := #[T] }, ty, pos, af, gd⟩ σ (isD (.int .i64 (n : Int))) := by
 intro a w hh
 obtain ⟨A, c, hv⟩ := zD hh hx
 refine ⟨_, rfl, fun w' _ => ?_⟩
 simp [execOp, resolve, invoke, builtin, hv, Builtin.len_, run_underlying (yg hT), goInt]
theorem SW.viewN {c : Code} {A : Option Addr} {n cp : Nat} {b : List UInt8} {F : List Nat} (j : Nat) (hj : σ.bx[j]? = some (.r F (viewR (.slice A n cp) (cellsOf b)))) (hA : A.isNone = true) (h : b = [] → SW P Γ σ c Q) : SW P Γ σ c Q := fun a w hh => by
 refine h ?_ a w hh
 obtain ⟨⟨B, c', hv, hc, hr, _⟩, _⟩ := hh.resAt hj
 cases b with
 | nil => rfl
 | cons x b =>
  obtain ⟨g, o, e, _⟩ := hr s9
  injection hv with h1
  rw [h1, e] at hA
  cases hA
end
section
variable {κ : Type} [DecidableEq κ] {enc : κ → Value} {P : Program} {Γ : Cx} {σ : St} {S : List Nat} {dst : Option Tmp} {ty : TypeId} {pos : String} {af : Array Edge} {gd : Option (Nat × Bool)} {d : D}
abbrev mapF (M : Option Nat) {κ : Type} (enc : κ → Value) (ks : List κ) (f : κ → D) : Res := mapR M enc ks (ks.map f)
theorem idx_mem {k : κ} : ∀ {ks : List κ}, k ∈ ks → ∃ i, ks.idxOf? k = some i ∧ ks[i]? = some k
 | [], h => by simp at h
 | a :: ks, h => by
  by_cases e : a = k
  ·subst e
   exact ⟨0, by simp [List.idxOf?_cons], rfl⟩
  ·have hm : k ∈ ks := by
    rcases List.mem_cons.1 h with h | h
    ·exact absurd h.symm e
    ·exact h
   obtain ⟨i, h1, h2⟩ := idx_mem hm
   have hb : (a == k) = false := by simpa using e
   exact ⟨i + 1, by simp [List.idxOf?_cons, hb, h1], by simpa using h2⟩
theorem idx_none {k : κ} {ks : List κ} (h : k ∉ ks) : ks.idxOf? k = none := by
 cases hx : ks.idxOf? k with
 | none => rfl
 | some i =>
  obtain ⟨h1, h2, _⟩ := List.idxOf?_eq_some_iff.1 hx
  exact absurd (by rw [← h2]; exact List.getElem_mem _) h
theorem Rd.lookF {x y : Operand} {T kt et : Nat} {M : Option Nat} {F : List Nat} {k : κ} {ks : List κ} {f : κ → D} {dk : D} {ok : Bool} (j : Nat) (hx : σ.ev x = some (isD (.map M))) (hj : σ.bx[j]? = some (.r F (mapF M enc ks f))) (hy : σ.ev y = some dk) (hk : Le dk (isD (enc k))) (hT : mapT P T kt et = true) (hok : KeyOk P kt enc k ks) (hm : k ∈ ks) (hS : Ap σ j S) :
  Rd P Γ S ⟨dst, .lookup T x y ok, ty, pos, af, gd⟩ σ (cond ok (tupD [f k, isD (.bool true)]) (f k)) := by
 obtain ⟨i, h1, h2⟩ := idx_mem hm
 exact Rd.look j i hx hj hy hk hT hok h1 (by rw [List.getElem?_map, h2]; rfl) hS
omit [DecidableEq κ] in
theorem LeR.map {M : Option Nat} {ks : List κ} {ds es : List D} (h : LeAll ds es) : LeR (mapR M enc ks ds) (mapR M enc ks es) := fun L F w ⟨m, h1, h2, h3⟩ => ⟨m, h1, h2, h.all h3⟩
omit [DecidableEq κ] in
theorem LeAll.append : ∀ {ds es ds' es' : List D}, LeAll ds es → LeAll ds' es' → LeAll (ds ++ ds') (es ++ es')
 | [], [], _, _, _, h => h
 | _ :: _, _ :: _, _, _, h, k => ⟨h.1, LeAll.append h.2 k⟩
theorem Ef.mapNewF {x y z : Operand} {T kt et g : Nat} {F : List Nat} {k : κ} {ks : List κ} {f : κ → D} {dk dv : D} (j : Nat) (hx : σ.ev x = some (isD (.map (some g)))) (hj : σ.bx[j]? = some (.r F (mapF (some g) enc ks f))) (hy : σ.ev y = some dk) (hk : Le dk (isD (enc k))) (hz : σ.ev z = some dv) (hv : dv = f k) (hT : mapT P T kt et = true) (hok : KeyOk P kt enc k ks) (hm : k ∉ ks) (hS : ∀ g ∈ F, g ∈ S) :
  Ef P Γ S ⟨none, .mapUpdate T x y z, ty, pos, af, gd⟩ σ (fun σ' => σ' = σ.give [j] [.r F (mapF (some g) enc (ks ++ [k]) f)]) := by
 have h := Ef.mapNew (P := P) (Γ := Γ) (S := S) (ty := ty) (pos := pos) (af := af) (gd := gd) j hx hj hy hk hz hT hok (idx_none hm) hS
 intro a w hh K Q hK
 refine h a w hh K Q fun σ' a' w' hT' hh' ho => hK σ' a' w' ?_ hh' ho
 show σ' = _
 rw [hT', hv]
 unfold mapF
 rw [List.map_append]
 rfl
omit [DecidableEq κ] in
theorem Ef.makeMapF {T k : Nat} (f : κ → D) (hk : yk Γ.nt k = true) : Ef P Γ S ⟨some k, .makeMap T none, ty, pos, af, gd⟩ σ (fun σ' => ∃ g, σ' = (⟨σ.tm, σ.bx ++ [.r [g] (mapF (some g) enc [] f)]⟩ : St).put k (isD (.map (some g)))) := Ef.makeMap hk
end
end Sx
end Go.Proofs.YtgokpcnabgacnaaGreatDoor
namespace Go.Proofs.YtgokpcnabgacnaaGreatDoor
open Go.RowKit
namespace Sx
def nwD (n : Nat) (d : D) : D where
 R L w v := ∀ L', (∀ x ∈ L', x < n ∨ x ∈ L) → d.R L' w v
 keep := fun {L S w w' v} h ho hS L' hL => by
  have h1 := h (L' ++ S) (fun x hx => by
   rcases List.mem_append.1 hx with hx | hx
   ·exact hL x hx
   ·exact .inr (hS x hx))
  exact d.less (d.keep h1 ho (fun x hx => List.mem_append_right _ hx)) (fun x hx => .inl (List.mem_append_left _ hx))
 less := fun {L L2 w v} h hL L' hL' => by
  classical
  have h1 := h (L'.filter (fun x => decide (x < n ∨ x ∈ L))) (fun x hx => by simpa using (List.mem_filter.1 hx).2)
  refine d.less h1 (fun x hx => ?_)
  rcases hL' x hx with h2 | h2
  ·exact .inl (List.mem_filter.2 ⟨hx, by simp [h2]⟩)
  ·rcases hL x h2 with h3 | h3
   ·exact .inl (List.mem_filter.2 ⟨hx, by simp [h3]⟩)
   ·exact .inr h3
theorem le_nw {n : Nat} {d : D} : Le (nwD n d) d := fun L _ _ h => h L (fun _ hx => .inr hx)
theorem zt {n : Nat} {x : Value} : Le (isD x) (nwD n (isD x)) := fun _ _ _ h _ _ => h
theorem le_nw_mono {n m : Nat} {d d' : D} (h : n ≤ m) (hd : Le d d') : Le (nwD m d) (nwD n d') := fun L w v hv L' hL => hd _ _ _ (hv L' (fun x hx => by
 rcases hL x hx with h1 | h1
 ·exact .inl o9
 ·exact .inr h1))
instance (n : Nat) (d : D) [o : One d] : One (nwD n d) := ⟨fun L w v h => o.h _ _ _ (le_nw _ _ _ h)⟩
theorem all_nw {L L' : List Nat} {w : World} {n : Nat} (hL : ∀ x ∈ L', x < n ∨ x ∈ L) : ∀ {ds : List D} {cs : List Value}, All L w (ds.map (nwD n)) cs → All L' w ds cs
 | [], [], _ => trivial
 | d :: ds, c :: cs, h => ⟨h.1 L' hL, all_nw hL h.2⟩
theorem le_nw_agg {n : Nat} {ds es : List D} (h : LeAll ds (es.map (nwD n))) : Le (yX ds) (nwD n (yX es)) := fun _ _ _ ⟨cs, hv, ha⟩ _ hL => ⟨cs, hv, all_nw hL (h.all ha)⟩
theorem le_nw_tup {n : Nat} {ds es : List D} (h : LeAll ds (es.map (nwD n))) : Le (tupD ds) (nwD n (tupD es)) := fun _ _ _ ⟨cs, hv, ha⟩ _ hL => ⟨cs, hv, all_nw hL (h.all ha)⟩
structure ConN (P : Program) (f : FuncId) (ds : List D) (d : D) : Prop where
 en : enters P f
 go : ∀ (L : List Nat) (w : World) (vs : List Value), (∀ g ∈ L, g < w.heap.size) → glob.R w → All L w ds vs → Calls P f vs.toArray w fun e w' => ∃ v, e = .returned v ∧ (nwD w.heap.size d).R L w' v ∧ Only [] w w'
section
variable {P : Program} {Γ : Cx} {σ : St} {S : List Nat} {dst : Option Tmp} {ty : TypeId} {pos : String} {af : Array Edge} {gd : Option (Nat × Bool)} {d : D} {Q : Exit → Act → World → Prop} {a : Act} {w : World}
theorem yE {f : FuncId} {fn : Func} {c : Code} {ds : List D} {d : D} (hf : P.funcs[f]? = some fn) (hn : (fn.name == "runtime.NumGoroutine") = false) (hb : fn.body = some c) (hlen : Nat.ble ds.length fn.ntmps = true)
  (h : ∀ (base : List Nat) (w0 : World), SW P ⟨fn.ntmps, base, w0, [], []⟩ (St.of (inits 0 ds) []) c (bodyPost P fn fun e w' => ∃ v, e = .returned v ∧ (nwD w0.heap.size d).R base w' v ∧ Only [] w0 w')) : ConN P f ds d := by
 refine ⟨enters_of hf hn (by rw [hb]; rfl), fun L w vs hL hG ha => ?_⟩
 refine calls_of_wp hf hb (h L w _ _ ?_)
 have hl := ha.length
 have hle : ds.length ≤ fn.ntmps := by simpa using hlen
 refine ⟨rfl, by simp [hl]; omega, fun i e hi => ?_, fun b hb => by simp [St.of] at hb, by simp [St.of, fps], by simp [St.of, fps], Only.refl _ _, hL, by simp, hG, by simp⟩
 have := inits_spec (pre := []) (post := List.replicate (fn.ntmps - vs.length) undef) ha rfl i e hi
 have e1 : vs.toArray ++ Array.replicate (fn.ntmps - vs.toArray.size) undef = ([] ++ vs ++ List.replicate (fn.ntmps - vs.length) undef).toArray := by
  apply Array.ext'
  simp
 rw [e1]
 simpa [St.L, St.of, fps] using this
theorem ConN.con {f : FuncId} {ds : List D} {d : D} (h : ConN P f ds d) : Con P f ds d :=
 ⟨h.en, fun L w vs hL hG ha => (h.go L w vs hL hG ha).mono fun _ _ ⟨v, hv, hd, ho⟩ => ⟨v, hv, le_nw _ _ _ hd, ho⟩⟩
theorem ConN.mono {f : FuncId} {ds es : List D} {d e : D} (h : ConN P f ds d) (h1 : LeAll es ds) (h2 : Le d e) : ConN P f es e :=
 ⟨h.en, fun L w vs hL hG ha => (h.go L w vs hL hG (h1.all ha)).mono fun _ _ ⟨v, hv, hd, ho⟩ => ⟨v, hv, le_nw_mono (Nat.le_refl _) h2 _ _ _ hd, ho⟩⟩
def Off (Γ : Cx) (σ : St) (js : List Nat) (L' : List Nat) : Prop := (∀ x ∈ L', x ∈ σ.L Γ) ∧ ∀ j ∈ js, ∀ b, σ.bx[j]? = some b → ∀ x ∈ b.fp, x ∉ L'
def Sees (Γ : Cx) (σ : St) (js : List Nat) (d d' : D) : Prop := ∀ a w v L', Holds Γ σ a w → Off Γ σ js L' → d.R (σ.L Γ) w v → d'.R L' w v
def SeesAll (Γ : Cx) (σ : St) (js : List Nat) : List D → List D → Prop
 | [], [] => True
 | d :: ds, e :: es => Sees Γ σ js d e ∧ SeesAll Γ σ js ds es
 | _, _ => False
theorem SeesAll.all {js L' : List Nat} (hh : Holds Γ σ a w) (ho : Off Γ σ js L') : ∀ {ds es : List D} {vs : List Value}, SeesAll Γ σ js ds es → All (σ.L Γ) w ds vs → All L' w es vs
 | [], [], [], _, _ => trivial
 | _ :: _, _ :: _, _ :: _, h, k => ⟨h.1 a w _ _ hh ho k.1, SeesAll.all hh ho h.2 k.2⟩
theorem zr {js : List Nat} {d d' : D} (h : Le d d') : Sees Γ σ js d d' := fun a w v L' _ ho hd => d'.less (h _ _ _ hd) (fun x hx => .inl (ho.1 x hx))
theorem sees_agg {js : List Nat} {ds es : List D} (h : SeesAll Γ σ js ds es) : Sees Γ σ js (yX ds) (yX es) := fun a w v L' hh ho ⟨cs, hv, ha⟩ => ⟨cs, hv, h.all hh ho ha⟩
theorem sees_vec {js : List Nat} {α : Type} {enc : α → List D} {l : List α} {F : List Nat} {e sz c : Nat} {A : Option Addr} (j : Nat) (hj : σ.bx[j]? = some (.r F (yb e sz enc A c l))) (hm : j ∈ js) : Sees Γ σ js (isD (.slice A l.length c)) (lsD enc l) := fun a w v L' hh ho hd => by
 obtain ⟨h1, h2⟩ := own_at (hh.resAt hj) (L' := L') (fun x hx => .inl (ho.1 x hx)) (fun g hg => ho.2 j hm _ hj g hg)
 exact ⟨A, c, hd, h1, h2⟩
theorem sees_vecB {js : List Nat} {b : List UInt8} {F : List Nat} {e c : Nat} {A : Option Addr} (j : Nat) (hj : σ.bx[j]? = some (.r F (yb e 1 Z2 A c b))) (hm : j ∈ js) : Sees Γ σ js (isD (.slice A b.length c)) (bD b) := fun a w v L' hh ho hd => le_ls_b b _ _ _ (sees_vec j hj hm a w v L' hh ho hd)
theorem sees_view {js : List Nat} {R : Res} {xs : List Value} {u : Value} {F : List Nat} (j : Nat) (hj : σ.bx[j]? = some (.r F R)) (hR : Z7 R u xs) (hm : j ∈ js) : Sees Γ σ js (isD u) (slD xs) := fun a w v L' hh ho hd => by
 obtain ⟨A, c, hv, hc, hr, hn⟩ := hR _ _ _ (hh.resAt hj)
 refine ⟨A, c, ?_, hc, hr, fun h0 p hp hx => ?_⟩
 ·exact (show v = u from hd).trans hv
 ·rcases hn h0 p hp with h1 | h1
  ·exact ho.2 j hm _ hj _ h1 hx
  ·exact h1 (ho.1 _ hx)
theorem yL {js : List Nat} {g : Nat} {ds es : List D} (j : Nat) (hj : σ.bx[j]? = some (.c g ds)) (hm : j ∈ js) (h : SeesAll Γ σ js ds es) : Sees Γ σ js (pA g) (paD es) := fun a w v L' hh ho hd => by
 obtain ⟨t, cs, hb, ha⟩ := hh.boxAt hj
 refine ⟨⟨g, 0, none⟩, hd, fun _ => ⟨g, 0, rfl, hb.lt, ho.2 j hm _ hj g (List.mem_singleton.2 rfl), cs, h.all hh ho ha, fun i hi => ?_⟩⟩
 rw [Nat.zero_add, hb.cell]
def mpD {κ : Type} (enc : κ → Value) (ks : List κ) (f : κ → D) : D where
 R L w v := ∃ (M : Option Nat) (es : Array MapEntry) (F : List Nat), v = .map M ∧ MapAt w M es F ∧ (∀ g ∈ F, g ∉ L) ∧ es.toList.map (fun e : MapEntry => e.key) = ks.map enc ∧ All L w (ks.map f) (es.toList.map (fun e : MapEntry => e.val))
 keep := fun ⟨M, es, F, hv, hm, hF, hk, ha⟩ ho hS => ⟨M, es, F, hv, hm.keep ho (fun x hx hf => hF x hf (hS x hx)), hF, hk, ha.keep ho hS⟩
 less := fun ⟨M, es, F, hv, hm, hF, hk, ha⟩ hL => ⟨M, es, F, hv, hm, fun g hg hx => by
  rcases hL g hx with h | h
  ·exact hF g hg h
  ·have := hm.lt g hg
   omega, hk, ha.less hL⟩
instance {κ : Type} (enc : κ → Value) (ks : List κ) (f : κ → D) : One (mpD enc ks f) := ⟨fun _ _ _ h => by obtain ⟨M, es, F, rfl, _⟩ := h; rfl⟩
theorem sees_map {js : List Nat} {κ : Type} {enc : κ → Value} {M : Option Nat} {ks : List κ} {f : κ → D} {F : List Nat} (j : Nat) (hj : σ.bx[j]? = some (.r F (mapF M enc ks f))) (hm : j ∈ js) : Sees Γ σ js (isD (.map M)) (mpD enc ks f) := fun a w v L' hh ho hd => by
 obtain ⟨es, h1, h2, h3⟩ := hh.resAt hj
 exact ⟨M, es, F, hd, h1, fun g hg => ho.2 j hm _ hj g hg, h2, h3.less (fun x hx => .inl (ho.1 x hx))⟩
theorem yN {x : Operand} {ds : List D} (hx : σ.ev x = some (paD ds)) : Rd P Γ S ⟨dst, .nilCheck x, ty, pos, af, gd⟩ σ (paD ds) := by
 intro a w hh
 have h := zD hh hx
 have h' := h
 obtain ⟨p, hv, _⟩ := h
 exact ⟨_, h', fun w' _ => by simp [execOp, hv]⟩
theorem Rd.eqPA {x y : Operand} {T yT : Nat} {ds : List D} (hx : σ.ev x = some (paD ds)) (hy : σ.ev y = some (isD (.pointer none))) (hT : ptrT P T = true) : Rd P Γ S ⟨dst, .binOp .eql T x y yT, ty, pos, af, gd⟩ σ (isD (.bool false)) := by
 intro a w hh
 obtain ⟨p, hv, _⟩ := zD hh hx
 have hyv : a.eval y = .pointer none := zD hh hy
 refine ⟨_, rfl, fun w' _ => ?_⟩
 simp [execOp, hv, hyv, eqGuard, binOp, run_equal_pointer_nil w' T (some p) (ptrT_spec hT)]
theorem Rd.nePA {x y : Operand} {T yT : Nat} {ds : List D} (hx : σ.ev x = some (paD ds)) (hy : σ.ev y = some (isD (.pointer none))) (hT : ptrT P T = true) : Rd P Γ S ⟨dst, .binOp .neq T x y yT, ty, pos, af, gd⟩ σ (isD (.bool true)) := by
 intro a w hh
 obtain ⟨p, hv, _⟩ := zD hh hx
 have hyv : a.eval y = .pointer none := zD hh hy
 refine ⟨_, rfl, fun w' _ => ?_⟩
 simp [execOp, hv, hyv, eqGuard, binOp, run_equal_pointer_nil w' T (some p) (ptrT_spec hT)]
theorem upon_N {f : FuncId} {vs : List Value} {ad : List D} {es : List D} (hcon : ConN P f ad d) (hh : Holds Γ σ a w) {js : List Nat} (hs : SeesAll Γ σ js es ad) (hall : All (σ.L Γ) w es vs) :
  Calls P f vs.toArray w fun e w' => ∃ v, e = .returned v ∧ Holds Γ σ a w' ∧ (nwD Γ.w0.heap.size d).R (σ.L Γ) w' v ∧ Only [] w w' := by
 classical
 have ho : Off Γ σ js ((σ.L Γ).filter (fun x => decide (∀ j ∈ js, ∀ b, σ.bx[j]? = some b → x ∉ b.fp))) := ⟨fun x hx => (List.mem_filter.1 hx).1, fun j hj b hb x hx hm => by
  have := (List.mem_filter.1 hm).2
  simp only [decide_eq_true_eq] at this
  exact this j hj b hb hx⟩
 refine (hcon.go _ w vs (fun g hg => hh.lt g (ho.1 g hg)) hh.gl (hs.all hh ho hall)).mono ?_
 rintro e w' ⟨v, rfl, hd, hO⟩
 refine ⟨v, rfl, hh.keep hO, fun L' hL' => ?_, hO⟩
 refine hd L' (fun x hx => ?_)
 rcases hL' x hx with h | h
 ·exact .inl (Nat.lt_of_lt_of_le h hh.on.size)
 ·exact .inl (hh.lt x h)
theorem zA {f : FuncId} {args : Array Operand} {aT : Array TypeId} {ad es : List D} {k : Nat} (js : List Nat) (hcon : ConN P f ad d) (he : σ.evs args.toList = some es) (hs : SeesAll Γ σ js es ad) (hk : yk Γ.nt k = true) :
  Ef P Γ S ⟨some k, .call { callee := .value (.func f), args := args, argTypes := aT }, ty, pos, af, gd⟩ σ (fun σ' => σ' = σ.put k d) := by
 intro a w hh K Q hK
 have hall := Zn hh he
 unfold Oper.wp
 rw [run_callV (cap := []) hcon.en (show a.eval (.func f) = .func (.func f) #[] ([] : List Value).toArray from rfl), List.append_nil]
 simp only [Oper.upon]
 refine (upon_N hcon hh hs hall).mono ?_
 rintro r w' ⟨v, rfl, h1, h2, ho⟩
 exact hK _ _ _ rfl (h1.put (by simpa [yk] using hk) (le_nw _ _ _ h2)) (ho.mono s9)
theorem Ef.callNN {f : FuncId} {args : Array Operand} {aT : Array TypeId} {ad es : List D} {k : Nat} (js : List Nat) (hcon : ConN P f ad d) (he : σ.evs args.toList = some es) (hs : SeesAll Γ σ js es ad) (hk : yk Γ.nt k = true) :
  Ef P Γ S ⟨some k, .call { callee := .value (.func f), args := args, argTypes := aT }, ty, pos, af, gd⟩ σ (fun σ' => σ' = σ.put k (nwD Γ.w0.heap.size d)) := by
 intro a w hh K Q hK
 have hall := Zn hh he
 unfold Oper.wp
 rw [run_callV (cap := []) hcon.en (show a.eval (.func f) = .func (.func f) #[] ([] : List Value).toArray from rfl), List.append_nil]
 simp only [Oper.upon]
 refine (upon_N hcon hh hs hall).mono ?_
 rintro r w' ⟨v, rfl, h1, h2, ho⟩
 exact hK _ _ _ rfl (h1.put (by simpa [yk] using hk) h2) (ho.mono s9)
theorem all_nw' {L : List Nat} {w : World} {n : Nat} : ∀ {ds : List D} {cs : List Value}, (∀ L', (∀ x ∈ L', x < n ∨ x ∈ L) → All L' w ds cs) → All L w (ds.map (nwD n)) cs
 | [], [], _ => trivial
 | [], _ :: _, h => (h L (fun _ hx => .inr hx)).elim
 | _ :: _, [], h => (h L (fun _ hx => .inr hx)).elim
 | _ :: _, _ :: _, h => ⟨fun L' hL => (h L' hL).1, all_nw' (fun L' hL => (h L' hL).2)⟩
theorem le_nw_aggD {n : Nat} {ds : List D} : Le (nwD n (yX ds)) (yX (ds.map (nwD n))) := fun L w v h => by
 obtain ⟨cs, hv, _⟩ := h L (fun _ hx => .inr hx)
 refine ⟨cs, hv, all_nw' (fun L' hL => ?_)⟩
 obtain ⟨cs', hv', ha⟩ := h L' hL
 rw [hv] at hv'
 injection hv' with h1
 have : cs = cs' := by simpa using congrArg Array.toList h1
 rw [this]
 exact ha
theorem Ef.callNL {f : FuncId} {args : Array Operand} {aT : Array TypeId} {ad es : List D} {k : Nat} {d' : D} (js : List Nat) (hcon : ConN P f ad d) (he : σ.evs args.toList = some es) (hs : SeesAll Γ σ js es ad) (hl : Le (nwD Γ.w0.heap.size d) d') (hk : yk Γ.nt k = true) :
  Ef P Γ S ⟨some k, .call { callee := .value (.func f), args := args, argTypes := aT }, ty, pos, af, gd⟩ σ (fun σ' => σ' = σ.put k d') := by
 intro a w hh K Q hK
 have hall := Zn hh he
 unfold Oper.wp
 rw [run_callV (cap := []) hcon.en (show a.eval (.func f) = .func (.func f) #[] ([] : List Value).toArray from rfl), List.append_nil]
 simp only [Oper.upon]
 refine (upon_N hcon hh hs hall).mono ?_
 rintro r w' ⟨v, rfl, h1, h2, ho⟩
 exact hK _ _ _ rfl (h1.put (by simpa [yk] using hk) (hl _ _ _ h2)) (ho.mono s9)
theorem Holds.lookS (h : Holds Γ σ a w) {k : Nat} {xs : List Value} (hk : σ.tm k = some (slD xs)) : ∃ A c, Holds Γ ((⟨σ.tm, σ.bx ++ [.r [] (viewR (.slice A xs.length c) xs)]⟩ : St).put k (isD (.slice A xs.length c))) a w := by
 obtain ⟨A, c, hv, hc, hr, ha⟩ := h.tm k _ hk
 refine ⟨A, c, ?_⟩
 have h1 := h.more (Only.refl [] w) (b := .r [] (viewR (.slice A xs.length c) xs)) ⟨⟨A, c, rfl, hc, hr, fun h0 p hp => .inr (ha h0 p hp)⟩, by simp⟩ (by simp [Box.fp]) (by simp [Box.fp])
 exact h1.learn hv
theorem SW.lookB {c : Code} (k : Nat) {b : List UInt8} (hk : σ.tm k = some (bD b)) (h : ∀ A cp, SW P Γ ((⟨σ.tm, σ.bx ++ [.r [] (viewR (.slice A b.length cp) (cellsOf b))]⟩ : St).put k (isD (.slice A b.length cp))) c Q) : SW P Γ σ c Q := fun a w hh => by
 obtain ⟨A, c, h1⟩ := hh.lookS hk
 rw [zv] at h1
 exact h A c a w h1
theorem Holds.freezeN (h : Holds Γ σ a w) (hl : Γ.lent = []) {j k e sz c : Nat} {A : Option Addr} {F : List Nat} {α : Type} {enc enc' : α → List D} {l : List α} (hj : σ.bx[j]? = some (.r F (yb e sz enc A c l))) (hk : σ.tm k = some (isD (.slice A l.length c))) (he : ∀ x, LeAll (enc x) ((enc' x).map (nwD Γ.w0.heap.size))) : Holds Γ ((⟨σ.tm, yD σ.bx 0 [j]⟩ : St).put k (nwD Γ.w0.heap.size (lsD enc' l))) a w := by
 have h1 := h.drop [j]
 refine h1.learn ?_
 have hv : a.tmps.getD k undef = .slice A l.length c := h.tm k _ hk
 intro L' hL'
 obtain ⟨xs, ha, ho, hF⟩ := h.resAt hj
 have hnew : ∀ g ∈ F, Γ.w0.heap.size ≤ g := fun g hg => by
  rcases h.nw g (mem_fps.2 ⟨_, List.mem_of_getElem? hj, hg⟩) with h2 | h2
  ·exact h2
  ·rw [hl] at h2; cases h2
 have hoff : ∀ g ∈ F, g ∉ L' := fun g hg hm => by
  rcases hL' g hm with h2 | h2
  ·have := hnew g hg; omega
  ·exact apart_drop h hj hg h2
 have hall : All L' w (l.flatMap enc') xs := by
  have hle : ∀ l : List α, LeAll (l.flatMap enc) ((l.flatMap enc').map (nwD Γ.w0.heap.size)) := fun l => by
   induction l with
   | nil => trivial
   | cons x l ih =>
    rw [List.flatMap_cons, List.flatMap_cons, List.map_append]
    exact LeAll.append (he x) ih
  refine all_nw (L := σ.L Γ) (fun x hx => ?_) ((hle l).all ha)
  rcases hL' x hx with h2 | h2
  ·exact .inl h2
  ·rcases List.mem_append.1 h2 with h3 | h3
   ·exact .inr (List.mem_append_left _ (Zw h3))
   ·exact .inr (List.mem_append_right _ h3)
 have hR : (vecR e sz A l.length c (l.flatMap enc')).R L' F w := ⟨xs, hall, ho, hF⟩
 obtain ⟨h2, h3⟩ := own_at hR (L' := L') (fun x hx => .inl hx) hoff
 exact ⟨A, c, hv, h2, h3⟩
theorem nw_put {k : Nat} {d d' : D} (tm : Nat → Option D) (bx : List Box) : ((⟨tm, bx⟩ : St).put k d).put k d' = (⟨tm, bx⟩ : St).put k d' := by
 simp only [St.put]
 congr 1
 funext i
 cases Nat.beq i k <;> rfl
theorem Holds.freezeNB (h : Holds Γ σ a w) (hl : Γ.lent = []) {j k e c : Nat} {A : Option Addr} {F : List Nat} {b : List UInt8} (hj : σ.bx[j]? = some (.r F (yb e 1 Z2 A c b))) (hk : σ.tm k = some (isD (.slice A b.length c))) : Holds Γ ((⟨σ.tm, yD σ.bx 0 [j]⟩ : St).put k (nwD Γ.w0.heap.size (bD b))) a w := by
 have h1 := h.freezeN hl (enc' := Z2) hj hk (fun x => ⟨zt, trivial⟩)
 have h2 := h1.weak (i := k) (d := nwD Γ.w0.heap.size (lsD Z2 b)) (d' := nwD Γ.w0.heap.size (bD b)) (by rw [put_tm, if_pos rfl]) (le_nw_mono (Nat.le_refl _) (le_ls_b b))
 rw [nw_put] at h2
 exact h2
theorem SW.freezeN {cd : Code} (j k : Nat) {e sz c : Nat} {A : Option Addr} {F : List Nat} {α : Type} {enc enc' : α → List D} {l : List α} (hl : Γ.lent = []) (hj : σ.bx[j]? = some (.r F (yb e sz enc A c l))) (hk : σ.tm k = some (isD (.slice A l.length c))) (he : ∀ x, LeAll (enc x) ((enc' x).map (nwD Γ.w0.heap.size))) (h : SW P Γ ((⟨σ.tm, yD σ.bx 0 [j]⟩ : St).put k (nwD Γ.w0.heap.size (lsD enc' l))) cd Q) : SW P Γ σ cd Q := fun a w hh => h a w (hh.freezeN hl hj hk he)
theorem SW.freezeNB {cd : Code} (j k : Nat) {e c : Nat} {A : Option Addr} {F : List Nat} {b : List UInt8} (hl : Γ.lent = []) (hj : σ.bx[j]? = some (.r F (yb e 1 Z2 A c b))) (hk : σ.tm k = some (isD (.slice A b.length c))) (h : SW P Γ ((⟨σ.tm, yD σ.bx 0 [j]⟩ : St).put k (nwD Γ.w0.heap.size (bD b))) cd Q) : SW P Γ σ cd Q := fun a w hh => h a w (hh.freezeNB hl hj hk)
theorem SN.freezeNB (j k : Nat) {e c : Nat} {A : Option Addr} {F : List Nat} {b : List UInt8} (hl : Γ.lent = []) (hj : σ.bx[j]? = some (.r F (yb e 1 Z2 A c b))) (hk : σ.tm k = some (isD (.slice A b.length c))) (h : SN Γ Q ((⟨σ.tm, yD σ.bx 0 [j]⟩ : St).put k (nwD Γ.w0.heap.size (bD b)))) : SN Γ Q σ := fun a w hh => h a w (hh.freezeNB hl hj hk)
theorem SWl.freezeN {ops : Array Oper} {lo : List Oper} (j k : Nat) {e sz c : Nat} {A : Option Addr} {F : List Nat} {α : Type} {enc enc' : α → List D} {l : List α} (hl : Γ.lent = []) (hj : σ.bx[j]? = some (.r F (yb e sz enc A c l))) (hk : σ.tm k = some (isD (.slice A l.length c))) (he : ∀ x, LeAll (enc x) ((enc' x).map (nwD Γ.w0.heap.size))) (h : SWl P Γ ops Q lo ((⟨σ.tm, yD σ.bx 0 [j]⟩ : St).put k (nwD Γ.w0.heap.size (lsD enc' l)))) : SWl P Γ ops Q lo σ := fun a w hh => h a w (hh.freezeN hl hj hk he)
instance (n : Nat) (ds : List D) [os : Ones ds] : Ones (ds.map (nwD n)) := ⟨fun d hd => by
 obtain ⟨e, he, rfl⟩ := List.mem_map.1 hd
 exact fun L w v h => os.m e he _ _ _ (le_nw _ _ _ h)⟩
theorem Holds.freezeC (h : Holds Γ σ a w) {j j2 o g e sz c : Nat} {A : Option Addr} {F : List Nat} {α : Type} {enc : α → List D} {l : List α} {ds : List D} {d' : D} (hj : σ.bx[j]? = some (.c g ds)) (hd : ds[o]? = some (isD (.slice A l.length c))) (hv : σ.bx[j2]? = some (.r F (yb e sz enc A c l)))
  (hl : ∀ L', (∀ x ∈ L', x ∈ σ.L Γ ∨ w.heap.size ≤ x) → (∀ x ∈ F, x ∉ L') → (yb e sz enc A c l).R (σ.L Γ) F w → d'.R L' w (.slice A l.length c)) : Holds Γ ⟨σ.tm, yD (setBx σ.bx j (ds.set o d')) 0 [j2]⟩ a w := by
 have hids : fps (setBx σ.bx j (ds.set o d')) = fps σ.bx := setBx_ids _ _ _
 have hne : j ≠ j2 := fun e => by subst e; rw [hj] at hv; cases hv
 have hset : ∀ (bs : List Box) (j j2 : Nat) (es : List D) (b : Box), j ≠ j2 → bs[j2]? = some b → (setBx bs j es)[j2]? = some b := by
  intro bs
  induction bs with
  | nil => intro j j2 es b _ h; simp at h
  | cons x bs ih =>
   intro j j2 es b hne h
   cases j with
   | zero =>
    cases j2 with
    | zero => exact absurd rfl hne
    | succ q => simpa [setBx] using h
   | succ i =>
    cases j2 with
    | zero => simpa [setBx] using h
    | succ q =>
     simp only [setBx, List.getElem?_cons_succ] at h ⊢
     exact ih i q es b o9 h
 have hv2 := hset _ _ _ (ds.set o d') _ hne hv
 have hoff : ∀ x ∈ F, x ∉ fps (yD (setBx σ.bx j (ds.set o d')) 0 [j2]) ++ Γ.base := fun x hx hm => by
  rcases List.mem_append.1 hm with hm | hm
  ·obtain ⟨b, hb, hxb⟩ := mem_fps.1 hm
   obtain ⟨i, h1, h2⟩ := ZX hb
   have := fps_at (by rw [hids]; exact h.nd) h1 hv2 hxb hx
   subst this
   simp at h2
  ·have h1 := h.bs x hm
   rcases h.nw x (mem_fps.2 ⟨_, List.mem_of_getElem? hv, hx⟩) with h2 | h2
   ·omega
   ·exact h.dj.1 x h2 hm
 have hsub : ∀ x ∈ fps (yD (setBx σ.bx j (ds.set o d')) 0 [j2]) ++ Γ.base, x ∈ σ.L Γ := fun x hx => by
  rcases List.mem_append.1 hx with hx | hx
  ·exact List.mem_append_left _ (by rw [← hids]; exact Zw hx)
  ·exact List.mem_append_right _ hx
 refine h.swap (Only.refl [] w) s9 (fun b hb => ?_) (fun x hx => .inl (by rw [← hids]; exact Zw hx)) (Ye (by rw [hids]; exact h.nd))
 rcases setBx_mem σ.bx j (ds.set o d') g ds hj h.nd b (dropAt_sub hb) with rfl | ⟨_, h2⟩
 ·right
  obtain ⟨t, cs, hbk, ha⟩ := h.boxAt hj
  refine ⟨t, cs, hbk, ?_⟩
  obtain ⟨v, h3, h4⟩ := ha.at hd
  have h5 := (ha.less (L' := fps (yD (setBx σ.bx j (ds.set o d')) 0 [j2]) ++ Γ.base) (fun x hx => .inl (hsub x hx)))
  have h6 := h5.set (i := o) (d := d') (c := v) (by
   rw [show v = .slice A l.length c from h4]
   exact hl _ (fun x hx => .inl (hsub x hx)) hoff (h.resAt hv))
  have e7 : cs.set o v = cs := by
   obtain ⟨h7, h8⟩ := List.getElem?_eq_some_iff.1 h3
   rw [← h8]
   exact List.set_getElem_self h7
  rwa [e7] at h6
 ·exact .inl ⟨h2, by simp⟩
theorem frz_ls {j2 e sz c : Nat} {A : Option Addr} {F : List Nat} {α : Type} {enc : α → List D} {l : List α} {w : World} {L L' : List Nat} (h1 : ∀ x ∈ L', x ∈ L ∨ w.heap.size ≤ x) (h2 : ∀ x ∈ F, x ∉ L') (h : (yb e sz enc A c l).R L F w) : (lsD enc l).R L' w (.slice A l.length c) := by
 obtain ⟨h3, h4⟩ := own_at h h1 h2
 exact ⟨A, c, rfl, h3, h4⟩
theorem SW.freezeC {cd : Code} (j o j2 : Nat) {g e sz c : Nat} {A : Option Addr} {F : List Nat} {α : Type} {enc : α → List D} {l : List α} {ds : List D} (hj : σ.bx[j]? = some (.c g ds)) (hd : ds[o]? = some (isD (.slice A l.length c))) (hv : σ.bx[j2]? = some (.r F (yb e sz enc A c l))) (h : SW P Γ ⟨σ.tm, yD (setBx σ.bx j (ds.set o (lsD enc l))) 0 [j2]⟩ cd Q) : SW P Γ σ cd Q := fun a w hh => h a w (hh.freezeC hj hd hv (fun L' h1 h2 h3 => frz_ls (j2 := 0) h1 h2 h3))
end
end Sx
end Go.Proofs.YtgokpcnabgacnaaGreatDoor
