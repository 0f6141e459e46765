/- WALKING CODE BY WHAT IS KNOWN: strings and bytes, parts of slices, elements that are stored. Over any program. WHAT CAME IN, by what is known: data ma -/
import Derived.Test.YtgokpcnabgacnaaGreatDoorGZAF
import Derived.Test.YtgokpcnabgacnaaGreatDoorGZAB
import Derived.Deep.Slices
import Derived.Recover
import Derived.Stop.BytesEq
namespace Go.Proofs.YtgokpcnabgacnaaGreatDoor
open Go.RowKit
namespace Sx
section
variable {P : Program} {Γ : Cx} {σ : St} {S : List Nat} {dst : Option Tmp} {ty : TypeId} {pos : String} {af : Array Edge} {gd : Option (Nat × Bool)} {d : D} {Q : Exit → Act → World → Prop} {a : Act} {w : World}
theorem ins_append {S T : List Nat} (h : ∀ s ∈ S, s ∈ σ.L Γ) (k : ∀ s ∈ T, s ∈ σ.L Γ) : ∀ s ∈ S ++ T, s ∈ σ.L Γ := fun s hs => by
 rcases List.mem_append.1 hs with hs | hs
 ·exact h s hs
 ·exact k s hs
def EfL (P : Program) (Γ : Cx) (o : Oper) (σ : St) (T : List Nat → St → Prop) : Prop :=
 ∀ a w, Holds Γ σ a w → ∀ (K : Act → World → Prop) (Q : Exit → Act → World → Prop), (∀ G σ' a' w', (∀ g ∈ G, w.heap.size ≤ g) → T G σ' → Holds Γ σ' a' w' → Only [] w w' → K a' w') → o.wp P a w K Q
section
variable {l : List Oper} {tz uz : Reg.Tz} {op : Op}
theorem SWz.efl {T : List Nat → St → Prop} {i : Nat} (ho : l[i]? = some ⟨dst, op, ty, pos, af, none⟩) (h : EfL P Γ ⟨dst, op, ty, pos, af, none⟩ σ T) (hk : ∀ G σ', T G σ' → SWz P Γ l Q (S ++ G) tz σ') (hu : SWz P Γ l Q S uz σ) : SWz P Γ l Q S (.n i tz uz) σ := by
 intro a w hh
 have e : l.getD i default = ⟨dst, op, ty, pos, af, none⟩ := by rw [List.getD_eq_getElem?_getD, ho]; rfl
 unfold Reg.wpG
 rw [e]
 refine ⟨wpList_plain rfl fun K hK => ?_, hu a w hh⟩
 exact h a w hh K _ fun G σ' a' w' hg hT hh' hO => hK _ _ ⟨S ++ G, fun x hx => by
  rcases List.mem_append.1 hx with hx | hx
  ·exact .inl hx
  ·exact .inr (hg x hx), hO, hk G σ' hT a' w' hh'⟩
end
theorem EfL.callR {f : FuncId} {args : Array Operand} {aT : Array TypeId} {ad es : List D} {ι : Type} {post : ι → List Box} {d : ι → D} {k : Nat} (hcon : ConR P f [] ad post d) (he : σ.evs args.toList = some es) (hl : LeAll es ad) (hk : yk Γ.nt k = true) :
  EfL P Γ ⟨some k, .call { callee := .value (.func f), args := args, argTypes := aT }, ty, pos, af, gd⟩ σ (fun G σ' => ∃ i, G = fps (post i) ∧ σ' = (σ.give [] (post i)).put k (d i)) := by
 intro a w hh K Q hK
 have hall := hl.all (Zn hh he)
 unfold Oper.wp
 rw [run_callV (cap := []) hcon.en (show a.eval (.func f) = .func (.func f) #[] ([] : List Value).toArray from rfl), List.append_nil]
 simp only [Oper.upon]
 refine (hcon.go (σ.L Γ) w _ hh.lt hh.gl (by simp [fps]) (by simp [fps]) (by simp [fps]) s9 (by simpa [fps] using hall)).mono ?_
 rintro r w' ⟨i, v, rfl, hd, hR, hnd, hnw, ho⟩
 have hnew : ∀ g ∈ fps (post i), w.heap.size ≤ g := fun g hg => by
  rcases hnw g hg with h | h
  ·simp [fps] at h
  ·exact h
 have hs : SubBx σ.bx [] [] := trivial
 obtain ⟨h1, h2⟩ := hh.give (js := []) (pre := []) (post := post i) hs ho (fun b hb => (Box.less (hR b hb) (fun x hx => .inl (by
  rcases List.mem_append.1 hx with hx | hx
  ·exact List.mem_append_left _ hx
  ·exact List.mem_append_right _ (List.mem_filter.1 hx).1)))) hnd (fun g hg => .inr (hnew g hg))
 exact hK (fps (post i)) _ _ _ hnew ⟨i, rfl, rfl⟩ (h1.put (by simpa [yk] using hk) ((d i).less hd (fun x hx => by
  rcases h2 x hx with h3 | h3
  ·rcases List.mem_append.1 h3 with h3 | h3
   ·exact .inl (List.mem_append_left _ h3)
   ·exact .inl (List.mem_append_right _ (List.mem_filter.1 h3).1)
  ·exact .inr h3))) (by simpa [fps] using ho)
theorem Ef.bytes {x : Operand} {sT dT e k : Nat} {b : List UInt8} (hx : σ.ev x = some (yt b)) (hs : stringT P sT = true) (hd : Zr P dT e = true) (he : intT P e .u8 = true) (hk : yk Γ.nt k = true) :
  Ef P Γ S ⟨some k, .convert sT dT x, ty, pos, af, gd⟩ σ (fun σ' => σ' = σ.put k (nwD Γ.w0.heap.size (bD b))) := by
 intro a w hh K Q hK
 have hxv : a.eval x = .string ⟨b.toArray⟩ := zD hh hx
 have hrun := run_bytes_of_string (P := P) w sT dT e ⟨b.toArray⟩ (ZA hs) (yg hd) (intT_spec he)
 unfold Oper.wp execOp
 simp only [hxv, Sem.run_bind, hrun, Result.andThen_ok, Sem.run_pure]
 have hsz : (ByteArray.mk b.toArray).size = b.length := str_size b
 rw [hsz]
 have hge := grownCap_ge w b.length 0 e
 have ho : Only [] w (w.drew.alloc (.cells (bytesRow ⟨b.toArray⟩ (grownCap w b.length 0 e)) e ((bytesRow ⟨b.toArray⟩ (grownCap w b.length 0 e)).size, (bytesRow ⟨b.toArray⟩ (grownCap w b.length 0 e)).size + 1))) := ((Only.refl [] w).drew).alloc _
 refine hK _ _ _ rfl ((hh.keep ho).put (by simpa [yk] using hk) ?_) (ho.mono s9)
 intro L' hL'
 refine ⟨_, _, by rw [zv], by rw [zv]; exact hge, fun _ => ⟨_, 0, rfl, by simp, fun j hj => ?_⟩, fun _ p hp hm => ?_⟩
 ·have hj' : j < b.length := by simpa using hj
  rw [Nat.zero_add]
  have hb := heap_alloc_new w.drew (.cells (bytesRow ⟨b.toArray⟩ (grownCap w b.length 0 e)) e ((bytesRow ⟨b.toArray⟩ (grownCap w b.length 0 e)).size, (bytesRow ⟨b.toArray⟩ (grownCap w b.length 0 e)).size + 1))
  rw [show w.drew.heap = w.heap from rfl] at hb
  simp only [World.cell?, hb]
  rw [cellsOf_get hj']
  have e2 : (bytesRow ⟨b.toArray⟩ (grownCap w b.length 0 e))[j]? = some (Value.int .u8 (b[j].toNat : Int)) := by
   unfold bytesRow
   rw [Array.getElem?_append_left (by simpa using hj')]
   rw [Array.getElem?_map, Array.getElem?_eq_getElem (by simpa using hj')]
   simp
  simpa using e2
 ·injection hp with hp
  subst hp
  simp only at hm
  rcases hL' _ hm with h | h
  ·have := hh.on.size
   omega
  ·have := hh.lt _ h
   omega
theorem Ef.litV {parts : List (Nat × Operand)} {T e n k : Nat} {idx : List Nat} {b : List UInt8} (hi : parts.map (·.1) = idx) (he : σ.evs (parts.map (·.2)) = some ((cellsOf b).map isD)) (hn : n = b.length) (hm : n ≤ 1000000) (hrun : ∀ w' : World, (Instr.buildSlice T n (idx.zip (cellsOf b)).toArray).run P w' = .ok (.slice (some ⟨w'.heap.size, 0, none⟩) n n) (w'.alloc (.cells (cellsOf b).toArray e))) (hk : yk Γ.nt k = true) :
  Ef P Γ S ⟨some k, .buildSlice T n parts.toArray, ty, pos, af, gd⟩ σ (fun σ' => ∃ g, σ' = (⟨σ.tm, σ.bx ++ [.r [g] (yb e 1 Z2 (some ⟨g, 0, none⟩) n b)]⟩ : St).put k (isD (.slice (some ⟨g, 0, none⟩) b.length n))) := by
 intro a w hh K Q hK
 have hcs := all_isD (Zn hh he)
 have e1 : (parts.toArray.map fun (i, x) => (i, a.eval x)) = (idx.zip (cellsOf b)).toArray := by
  rw [← hi, ← hcs]
  apply Array.ext'
  simp only [Array.toList_map]
  exact zip_parts a.eval parts
 have e2 : (execOp a.eval ⟨some k, .buildSlice T n parts.toArray, ty, pos, af, gd⟩).run P w = .ok (.value (.slice (some ⟨w.heap.size, 0, none⟩) b.length n)) (w.alloc (.cells (cellsOf b).toArray e)) := by
  simp only [execOp]
  rw [e1, Sem.run_bind, hrun w, ← hn]
  rfl
 unfold Oper.wp
 rw [e2]
 have h5 := hh.more ((Only.refl [] w).alloc (.cells (cellsOf b).toArray e)) (b := .r [w.heap.size] (yb e 1 Z2 (some ⟨w.heap.size, 0, none⟩) n b)) ⟨cellsOf b, by rw [Z4]; exact all_is _, ⟨by simp, .inr ⟨w.heap.size, n, _, rfl, Nat.zero_le _, heap_alloc_new w _, by omega, by simp only [maxLen]; omega, by simp [hn], by simp [List.take_of_length_le]⟩⟩, rfl⟩ (fun g hg => by rw [List.mem_singleton.1 hg]; exact Nat.le_refl _) (by simp [Box.fp])
 exact hK _ _ _ ⟨_, rfl⟩ (h5.put (by simpa [yk] using hk) rfl) ((Only.refl S w).alloc _)
theorem only_freeze {g o : Nat} : Only [g] w (w.freeze ⟨g, o, none⟩ 1) := by
 unfold World.freeze
 rw [if_neg d9]
 refine ⟨rfl, rfl, rfl, by simp, fun k hk hn => ?_⟩
 have : ¬ g = k := fun e => hn (by rw [e]; exact List.mem_singleton.2 rfl)
 simp [Array.getElem?_modify, this]
theorem cell_freeze {g o : Nat} (p : Addr) : (w.freeze ⟨g, o, none⟩ 1).cell? p = w.cell? p := by
 unfold World.freeze
 rw [if_neg d9]
 simp only [World.cell?, Array.getElem?_modify]
 by_cases h : g = p.block
 ·rw [if_pos h]
  cases hx : w.heap[p.block]? with
  | none => simp
  | some x => cases x <;> simp
 ·rw [if_neg h]
theorem Ef.mark {x : Operand} {T e k c : Nat} {A : Option Addr} {F : List Nat} {b : List UInt8} (j : Nat) (hx : σ.ev x = some (isD (.slice A b.length c))) (hj : σ.bx[j]? = some (.r F (yb e 1 Z2 A c b))) (hT : Zr P T e = true) (he : intT P e .u8 = true) (h0 : 0 < b.length) (hS : ∀ g ∈ F, g ∈ S) (hk : yk Γ.nt k = true) :
  Ef P Γ S ⟨some k, .convert T T x, ty, pos, af, gd⟩ σ (fun σ' => σ' = (⟨σ.tm, yD σ.bx 0 [j]⟩ : St).put k (bD b)) := by
 intro a w hh K Q hK
 have hxv : a.eval x = .slice A b.length c := zD hh hx
 obtain ⟨g, cur, xs, rfl, rfl, hg, hnc, hm, hcs, htk, hxl, ha⟩ := vec_some (hh.resAt hj) h0
 have hsh : w.shape? g = some (e, cur.size) := by simp [World.shape?, hg]
 have e2 : (execOp a.eval ⟨some k, .convert T T x, ty, pos, af, gd⟩).run P w = .ok (.value (.slice (some ⟨g, 0, none⟩) b.length c)) (w.freeze ⟨g, cur.size, none⟩ 1) := by
  simp [execOp, hxv, convert, run_underlying (yg hT), run_underlying (intT_spec he), markStringish, hsh]
 unfold Oper.wp
 rw [e2]
 have ho : Only [g] w (w.freeze ⟨g, cur.size, none⟩ 1) := only_freeze
 have hmem := List.mem_of_getElem? hj
 have h1 : Holds Γ ⟨σ.tm, yD σ.bx 0 [j]⟩ a (w.freeze ⟨g, cur.size, none⟩ 1) := by
  refine hh.swap ho (fun x hx => mem_fps.2 ⟨_, hmem, hx⟩) (fun b' hb' => .inl ⟨dropAt_sub hb', fun x hx hm => ?_⟩) (fun x hx => .inl (Zw hx)) (Ye hh.nd)
  have h2 := Yr hh hj (g := x) hx
  exact h2 (List.mem_append_left _ (mem_fps.2 ⟨b', hb', hm⟩))
 have hoff := Yr hh hj (g := g) (List.mem_singleton.2 rfl)
 rw [Z4] at ha
 have hxs := all_isD ha
 subst hxs
 refine hK _ _ _ rfl (h1.put (by simpa [yk] using hk) ⟨some ⟨g, 0, none⟩, c, by rw [zv], by rw [zv]; exact hnc, fun _ => ⟨g, 0, rfl, ?_, fun i hi => ?_⟩, fun _ p hp hm => ?_⟩) (ho.mono (fun x hx _ => hS x hx))
 ·exact Nat.lt_of_lt_of_le (Array.getElem?_eq_some_iff.1 hg).1 ho.size
 ·rw [cell_freeze, Nat.zero_add]
  have hb : w.cell? ⟨g, i, none⟩ = cur[i]? := by simp [World.cell?, hg]
  rw [hb, ← htk, List.getElem?_take]
  have : i < b.length * 1 := by simpa using hi
  rw [if_pos this]
  simp
 ·injection hp with hp
  subst hp
  exact hoff hm
theorem Rd.strBox {x : Operand} {sT dT e g n : TypeId} {b : List UInt8} (j : Nat) (hx : σ.ev x = some (isD (.slice (some ⟨g, 0, none⟩) n n))) (hj : σ.bx[j]? = some (.c g ((cellsOf b).map isD))) (hn : b.length = n) (hs : Zr P sT e = true) (he : intT P e .u8 = true) (hd : stringT P dT = true) (hS : Ap σ j S) : Rd P Γ S ⟨dst, .convert sT dT x, ty, pos, af, gd⟩ σ (yt b) := by
 intro a w hh
 have hv : a.eval x = .slice (some ⟨g, 0, none⟩) n n := zD hh hx
 obtain ⟨t, cs, hb, ha⟩ := hh.boxAt hj
 have hcs := all_isD ha
 subst hcs
 refine ⟨_, rfl, fun w' ho => ?_⟩
 have hb' := hb.keep ho (fun hm => hS.spec hh.nd hj g hm (List.mem_singleton.2 rfl))
 have hr' : RV w' (some ⟨g, 0, none⟩) (cellsOf b) := fun _ => ⟨g, 0, rfl, hb'.lt, fun i hi => by rw [Nat.zero_add, hb'.cell]⟩
 have h3 := run_str (P := P) (c := n) (yg hs) (intT_spec he) (ZA hd) (zv b) hr'
 rw [zv, hn] at h3
 simp only [execOp, hv, Sem.run_bind, h3]
 rfl
theorem At.take {L : List Nat} {A : Option Addr} {ds : List D} (n : Nat) (h : At L w A ds) : At L w A (ds.take n) := fun h0 => by
 obtain ⟨g, o, e, hg, hn, cs, h1, h2⟩ := h (by rw [List.length_take] at h0; omega)
 refine ⟨g, o, e, hg, hn, cs.take n, h1.take n, fun j hj => ?_⟩
 rw [List.length_take] at hj
 rw [h2 j o9, List.getElem?_take, if_pos o9]
theorem Rd.idxA1 {x y : Operand} {T e g n : Nat} {kd : IntKind} {i : Int} (hx : σ.ev x = some (pA g)) (hy : σ.ev y = some (isD (.int kd i))) (hT : arrT P T e n = true) (hs : (P.info? e).map (·.size) = some 1) (h0 : 0 ≤ i) (hi : i < (n : Int)) :
  Rd P Γ S ⟨dst, .indexAddr T x y, ty, pos, af, gd⟩ σ (isD (.pointer (some ⟨g, i.toNat, none⟩))) := by
 intro a w hh
 have hxv : a.eval x = .pointer (some ⟨g, 0, none⟩) := zD hh hx
 have hyv : a.eval y = .int kd i := zD hh hy
 obtain ⟨inf, hi', hsz⟩ := Option.map_eq_some_iff.1 hs
 refine ⟨_, rfl, fun w' _ => ?_⟩
 simp [execOp, hxv, hyv, Instr.indexAt, run_underlying (arrT_spec hT), Instr.sureAddr, asIntOf, sizeOf, typeInfo, hi', hsz, Addr.add, h0, hi]
 omega
theorem Ef.storeB8 {x y : Operand} {T g i : Nat} {b : List UInt8} {v : UInt8} (j : Nat) (hx : σ.ev x = some (isD (.pointer (some ⟨g, i, none⟩)))) (hj : σ.bx[j]? = some (.c g ((cellsOf b).map isD))) (hy : σ.ev y = some (isD (B8 v))) (hT : sizeT P T 1 = true) (hi : i < b.length) (hS : g ∈ S) :
  Ef P Γ S ⟨none, .store T x y, ty, pos, af, gd⟩ σ (fun σ' => σ' = σ.set j ((cellsOf (b.set i v)).map isD)) := by
 have h := Ef.storeE (P := P) (Γ := Γ) (S := S) (ty := ty) (pos := pos) (af := af) (gd := gd) j hx hy hj hT (by simpa using hi) hS
 intro a w hh K Q hK
 refine h a w hh K Q fun σ' a' w' hT' hh' ho => hK σ' a' w' ?_ hh' ho
 show σ' = _
 rw [hT']
 congr 1
 simp [cellsOf, List.map_set]
theorem Ef.storeT1 {x y : Operand} {T e c i : Nat} {A : Option Addr} {F : List Nat} {α : Type} {enc : α → List D} {l : List α} {v : α} (j : Nat) [Row enc 1] [One d] (hx : σ.ev x = some (isD (elP A (i * 1)))) (hj : σ.bx[j]? = some (.r F (yb e 1 enc A c l))) (hy : σ.ev y = some d) (hd : enc v = [d]) (hT : sizeT P T 1 = true) (hi : i < l.length) (hS : ∀ g ∈ F, g ∈ S) :
  Ef P Γ S ⟨none, .store T x y, ty, pos, af, gd⟩ σ (fun σ' => σ' = σ.give [j] [.r F (yb e 1 enc A c (l.set i v))]) := by
 intro a w hh K Q hK
 have hxv : a.eval x = elP A (i * 1) := zD hh hx
 have hyd := zD hh hy
 have h1c := One.h (d := d) _ _ _ hyd
 obtain ⟨g, cur, xs, rfl, rfl, hg, hnc, hm, hcs, htk, hxl, ha⟩ := vec_some (hh.resAt hj) o9
 have hic : i < cur.size := by rw [hcs]; omega
 obtain ⟨inf, hi', hs⟩ := Option.map_eq_some_iff.1 (show (P.info? T).map (·.size) = some 1 by unfold sizeT at hT; rw [beq_iff_eq] at hT; exact hT)
 have hcell : w.cell? ⟨g, i, none⟩ = some cur[i] := by simp [World.cell?, hg, hic]
 have hfz : w.frozen? ⟨g, i, none⟩ = false := by simp [World.frozen?, hg]
 have e2 : (execOp a.eval ⟨none, .store T x y, ty, pos, af, gd⟩).run P w = .ok .skip (w.setCell ⟨g, i, none⟩ (a.eval y)) := by
  simp [execOp, hxv, elP, Instr.storeAt, Instr.sureAddr, storeVar, sizeOf, typeInfo, hi', hs, ZG h1c, storeCells, run_store _ _ _ _ _ h1c, Addr.add, hcell, hfz]
 unfold Oper.wp
 rw [e2]
 have ho : Only [g] w (w.setCell ⟨g, i, none⟩ (a.eval y)) := (Only.refl [g] w).setCell (p := ⟨g, i, none⟩) (.inl s9) _
 have hg2 : (w.setCell ⟨g, i, none⟩ (a.eval y)).heap[g]? = some (.cells (cur.setIfInBounds i (a.eval y)) e (0, 0)) := by
  simp [World.setCell, Array.getElem?_modify, hg]
 have hsub : SubBx σ.bx [j] [.r [g] (yb e 1 enc (some ⟨g, 0, none⟩) c l)] := ⟨⟨_, hj, yp _⟩, trivial⟩
 have hfp : fps [Box.r [g] (yb e 1 enc (some ⟨g, 0, none⟩) c l)] = [g] := rfl
 have hset : (l.set i v).flatMap enc = (l.flatMap enc).set i d := by
  have : ∀ (l : List α) (i : Nat), (l.set i v).flatMap enc = (l.flatMap enc).set i d := by
   intro l
   induction l with
   | nil => intro i; simp
   | cons x l ih =>
    intro i
    have h1 := Row.len (enc := enc) (sz := 1) x
    obtain ⟨u, hu⟩ : ∃ u, enc x = [u] := by
     cases hx : enc x with
     | nil => rw [hx] at h1; simp at h1
     | cons u us => cases us with
      | nil => exact ⟨u, rfl⟩
      | cons => rw [hx] at h1; simp at h1
    cases i with
    | zero => simp [hd, hu]
    | succ i => simp [hu, ih i]
  exact this l i
 obtain ⟨h3, _⟩ := hh.give (post := [.r [g] (yb e 1 enc (some ⟨g, 0, none⟩) c (l.set i v))]) hsub (by rw [hfp]; exact ho) (fun b hb => by
  rw [List.mem_singleton.1 hb]
  refine ⟨xs.set i (a.eval y), ?_, ⟨by simp [hxl], .inr ⟨g, c, _, by simp, Nat.zero_le _, hg2, by simpa using hnc, hm, by simp [hcs], ?_⟩⟩, by simp [Value.ownBlock]⟩
  ·rw [hset]
   refine ((ha.set (i := i) hyd).keep ho (fun x hx => ?_)).less (fun x hx => ?_)
   ·rw [List.mem_singleton.1 hx]
    exact List.mem_append_left _ (mem_fps.2 ⟨_, List.mem_of_getElem? hj, List.mem_singleton.2 rfl⟩)
   ·rcases List.mem_append.1 hx with hx | hx
    ·exact .inl (List.mem_append_left _ (mem_fps.2 ⟨_, List.mem_of_getElem? hj, hx⟩))
    ·exact .inl (List.mem_filter.1 hx).1
  ·rw [← htk]
   simp [List.take_set]) (by simp [fps, Box.fp]) (fun g' hg' => .inl hg')
 exact hK _ _ _ rfl h3 (ho.mono (fun x hx _ => hS x hx))
end
end Sx
end Go.Proofs.YtgokpcnabgacnaaGreatDoor
namespace Go.Proofs.YtgokpcnabgacnaaGreatDoor
open Go.ChangeShapes Go.WideShapes Go.ChangeAt Go.RowKit
namespace Sx
section
variable {P : Program}
theorem top_int {t : TypeId} {k : IntKind} {base : Nat} {W : World} {v : Value} {H : Type} {enc : TypeId × Value → H} {x : DataW H} {p : List MemPlace} (ht : P.underlying t = some (.int k)) (hv : Value.okWide P W .any base t v) (h : DataW.Trod enc P W 0 (fun _ => true) true t v x p) : ∃ z : Int, (Lit.int k z).wf = true ∧ (isD (.int k z)).R [] W v := by
 obtain ⟨z, rfl, -, -, hz⟩ := open_int ht hv h
 exact ⟨z, hz, rfl⟩
end
end Sx
end Go.Proofs.YtgokpcnabgacnaaGreatDoor
namespace Go.Proofs.YtgokpcnabgacnaaGreatDoor
open Go.RowKit
namespace Sx
section
variable {P : Program} {Γ : Cx} {σ σ' : St} {Q : Exit → Act → World → Prop} {a : Act} {w : World} {ops : Array Oper} {rest : List Oper} {S : List Nat} {dst : Option Tmp} {ty : TypeId} {pos : String} {af : Array Edge} {gd : Option (Nat × Bool)}
def SP (Γ : Cx) (ch : List PanicEntry) (Q : Exit → Act → World → Prop) (σ : St) : Prop := ∀ a w, Holds Γ σ a w → Q (.panic ch) a w
theorem SP.then {ch : List PanicEntry} {K : Act → World → Prop} (h : SP Γ ch Q σ) : SP Γ ch (Exit.then K Q) σ := h
theorem SP.block {ch : List PanicEntry} {n : Nat} (h : SP Γ ch Q σ) : SP Γ ch (Exit.inBlock n Q) σ := h
abbrev pan (v : Value) : List PanicEntry := [{ v := v, recovered := false }]
structure ConP (P : Program) (f : FuncId) (ds : List D) (ch : List PanicEntry) : Prop where
 en : enters P f
 go : ∀ (L : List Nat) (w : World) (vs : List Value), (∀ g ∈ L, g < w.heap.size) → glob.R w → All L w ds vs → Calls P f vs.toArray w fun e w' => e = .panicked ch ∧ Only [] w w'
theorem SP.fn {fn : Func} {ch : List PanicEntry} {nt : Nat} {base : List Nat} {w0 : World} : SP ⟨nt, base, w0, [], []⟩ ch (bodyPost P fn fun e w' => e = .panicked ch ∧ Only [] w0 w') σ := fun a w hh => ⟨hh.df, rfl, hh.on⟩
theorem ConP.mono {f : FuncId} {ds es : List D} {ch : List PanicEntry} (h : ConP P f ds ch) (h1 : LeAll es ds) : ConP P f es ch := ⟨h.en, fun L w vs hL hG ha => h.go L w vs hL hG (h1.all ha)⟩
theorem SWl.panic {x : Operand} {T : TypeId} {v : Value} (hx : σ.ev x = some (isD (.iface T v))) (h : SP Γ (pan (.iface T v)) Q σ) : SWl P Γ ops Q (⟨dst, .panic x, ty, pos, af, none⟩ :: rest) σ := fun a w hh => by
 have hv : a.eval x = .iface T v := zD hh hx
 refine wpList_plain rfl fun K hK => ?_
 have e : (execOp a.eval ⟨dst, .panic x, ty, pos, af, none⟩).run P w = .halt (.panic (.iface T v)) w := by
  simp only [execOp, hv, Instr.panic, Sem.run_bind, run_goPanic]
  rfl
 unfold Oper.wp
 rw [e]
 exact h a w hh
theorem SWl.defer {x : Operand} {aT : Array TypeId} {f : FuncId} {cap : List Value} (hx : σ.ev x = some (isD (.func (.func f) #[] cap.toArray)))
  (h : SWl P { Γ with df := { target := .fn (.func f) cap.toArray, args := #[] } :: Γ.df } ops Q rest σ) : SWl P Γ ops Q (⟨none, .defer { callee := .value x, args := #[], argTypes := aT }, ty, pos, af, none⟩ :: rest) σ := fun a w hh => by
 have hv : a.eval x = .func (.func f) #[] cap.toArray := zD hh hx
 refine wpList_plain rfl fun K hK => ?_
 have e : (execOp a.eval ⟨none, .defer { callee := .value x, args := #[], argTypes := aT }, ty, pos, af, none⟩).run P w = .ok (.defer { target := .fn (.func f) cap.toArray, args := #[] }) w := by
  simp [execOp, resolve, hv, Deferred.ofValue, Sem.run_bind, Sem.run_pure, Result.andThen_ok]
 unfold Oper.wp
 rw [e]
 simp only [Oper.upon]
 refine hK _ _ (h _ w ⟨?_, hh.sz, hh.tm, hh.bx, hh.nd, hh.nw, hh.on, hh.bs, hh.dj⟩)
 show _ :: a.defers = _ :: Γ.df
 rw [hh.df]
structure ConD (P : Program) (f : FuncId) (pre : List Box) (ad : List D) (u u' : FrameMode) (post : List Box) : Prop where
 en : enters P f
 go : ∀ (L : List Nat) (w : World) (vs : List Value), (∀ x ∈ L, x < w.heap.size) → glob.R w → (∀ g ∈ fps pre, g ∉ glob.F) → (∀ g ∈ fps pre, g ∉ L) → (fps pre).Nodup → (∀ b ∈ pre, b.R (fps pre ++ L) w) → All (fps pre ++ L) w ad vs →
  CallsD P f vs.toArray u w fun e v w' => (∃ r, e = .returned r) ∧ v = u' ∧ (∀ b ∈ post, b.R (fps post ++ L) w') ∧ (fps post).Nodup ∧ (∀ g ∈ fps post, g ∈ fps pre ∨ w.heap.size ≤ g) ∧ Only (fps pre) w w'
def RL (P : Program) (fn : Func) (R : Ending → World → Prop) (u : FrameMode) (Γ : Cx) (σ : St) : Prop := ∀ a w, Holds Γ σ a w → Leaves P fn a.tmps R a.defers u w
theorem RL.defer {fn : Func} {R : Ending → World → Prop} {u u' : FrameMode} {f : FuncId} {cap : List Value} {pre post : List Box} {nt : Nat} {base lent : List Nat} {w0 : World} {df : List Deferred} (js : List Nat) (hu : u ≠ .run) (hcon : ConD P f pre (cap.map isD) u u' post) (hjs : js.Nodup) (hs : SubBx σ.bx js pre)
  (h : RL P fn R (settle u') ⟨nt, base, w0, lent, df⟩ (σ.give js post)) : RL P fn R u ⟨nt, base, w0, lent, { target := .fn (.func f) cap.toArray, args := #[] } :: df⟩ σ := fun a w hh => by
 have hd : a.defers = { target := .fn (.func f) cap.toArray, args := #[] } :: df := hh.df
 rw [hd]
 have hL1 : ∀ x ∈ fps pre ++ (σ.L ⟨nt, base, w0, lent, { target := .fn (.func f) cap.toArray, args := #[] } :: df⟩).filter (· ∉ fps pre), x ∈ σ.L ⟨nt, base, w0, lent, { target := .fn (.func f) cap.toArray, args := #[] } :: df⟩ ∨ w.heap.size ≤ x := fun x hx => by
  rcases List.mem_append.1 hx with hx | hx
  ·exact .inl (List.mem_append_left _ (hs.fps hx))
  ·exact .inl (List.mem_filter.1 hx).1
 refine leaves_cons (f := f) (args := cap.toArray) hu (by simpa [invoke] using hcon.en _ w) ((hcon.go ((σ.L ⟨nt, base, w0, lent, { target := .fn (.func f) cap.toArray, args := #[] } :: df⟩).filter (· ∉ fps pre)) w cap (fun x hx => hh.lt x (List.mem_filter.1 hx).1) hh.gl (fun g hg => hh.off g (hs.fps hg)) (fun g hg hm => by have := (List.mem_filter.1 hm).2; simp at this; exact this hg) (Ya hh.nd hjs hs) (fun b' hb' => ?_) ?_).mono ?_)
 ·obtain ⟨j, c, _, h5, h6⟩ := ZI hs b' hb'
  exact h6.2 _ _ (Box.less (hh.bx c (List.mem_of_getElem? h5)) hL1)
 ·exact all_is cap
 ·rintro e v w' ⟨⟨r, rfl⟩, rfl, hR, hnd, hnw, ho⟩
  have hg := (hh.give hs ho hR hnd hnw).1
  exact h { a with defers := df } w' ⟨rfl, hg.sz, hg.tm, hg.bx, hg.nd, hg.nw, hg.on, hg.bs, hg.dj⟩
theorem RL.fin {fn : Func} {pre : List Box} {ι : Type} {post : ι → List Box} {d : ι → D} {nt : Nat} {base : List Nat} {w0 : World} (i : ι) (js : List Nat) (h : Rs P ⟨nt, base, w0, fps pre, []⟩ fn σ (d i)) (hjs : js.Nodup) (hb : SubBx σ.bx js (post i)) :
  RL P fn (fun e w' => ∃ i v, e = .returned v ∧ (d i).R (fps (post i) ++ base) w' v ∧ (∀ b ∈ post i, b.R (fps (post i) ++ base) w') ∧ (fps (post i)).Nodup ∧ (∀ g ∈ fps (post i), g ∈ fps pre ∨ w0.heap.size ≤ g) ∧ Only (fps pre) w0 w') .returning ⟨nt, base, w0, fps pre, []⟩ σ := fun a w hh => by
 rw [show a.defers = [] from hh.df]
 exact Sx.retR i js h hjs hb hh
end
end Sx
end Go.Proofs.YtgokpcnabgacnaaGreatDoor
namespace Go.Proofs.YtgokpcnabgacnaaGreatDoor
open Go.RowKit
namespace Sx
abbrev Dg : Type := {d : List UInt8 // d.length = 32}
def encG (d : Dg) : List D := (cellsOf d.1).map isD
instance : Row encG 32 := ⟨fun x => by unfold encG; rw [List.length_map, zv, x.2], fun x => by unfold encG; infer_instance, by decide⟩
section
variable {P : Program} {Γ : Cx} {σ : St} {S : List Nat} {dst : Option Tmp} {ty : TypeId} {pos : String} {af : Array Edge} {gd : Option (Nat × Bool)} {d : D}
theorem Rd.more {op : Oper} {d d' : D} (h : Rd P Γ S op σ d) (hl : Le d d') : Rd P Γ S op σ d' := fun a w hh => by
 obtain ⟨v, hv, hr⟩ := h a w hh
 exact ⟨v, hl _ _ _ hv, hr⟩
end
end Sx
end Go.Proofs.YtgokpcnabgacnaaGreatDoor
namespace Go.Proofs.YtgokpcnabgacnaaGreatDoor
open Go.RowKit
namespace Sx
section
variable {P : Program} {Γ : Cx} {σ : St} {S : List Nat} {dst : Option Tmp} {ty : TypeId} {pos : String} {af : Array Edge} {gd : Option (Nat × Bool)} {d : D}
end
end Sx
end Go.Proofs.YtgokpcnabgacnaaGreatDoor
namespace Go.Proofs.YtgokpcnabgacnaaGreatDoor
open Go.RowKit
namespace Sx
class Flat (d : D) : Prop where
 h : ∀ L L' w v, d.R L w v → d.R L' w v
instance (v : Value) : Flat (isD v) := ⟨fun _ _ _ _ h => h⟩
class Flats (ds : List D) : Prop where
 h : ∀ L L' w vs, All L w ds vs → All L' w ds vs
instance : Flats [] := ⟨fun _ _ _ vs h => by cases vs with | nil => trivial | cons => exact h.elim⟩
instance (d : D) (ds : List D) [hd : Flat d] [hs : Flats ds] : Flats (d :: ds) := ⟨fun L L' w vs h => by
 cases vs with
 | nil => exact h.elim
 | cons v vs => exact ⟨hd.h _ _ _ _ h.1, hs.h _ _ _ _ h.2⟩⟩
instance (ds : List D) [hs : Flats ds] : Flat (Yq ds) := ⟨fun L L' w v ⟨cs, hv, ha⟩ => ⟨cs, hv, hs.h _ _ _ _ ha⟩⟩
theorem flats_cells (b : List UInt8) : Flats (b.flatMap Z2) := ⟨fun L L' w vs h => by
 induction b generalizing vs with
 | nil => cases vs with | nil => trivial | cons => exact h.elim
 | cons x b ih =>
  cases vs with
  | nil => exact h.elim
  | cons v vs => exact ⟨h.1, ih vs h.2⟩⟩
class FlatBx (b : Box) : Prop where
 h : ∀ L L' w, b.R L w → b.R L' w
instance (F : List Nat) (e c : Nat) (A : Option Addr) (b : List UInt8) : FlatBx (.r F (yb e 1 Z2 A c b)) := ⟨fun L L' w ⟨xs, ha, h⟩ => ⟨xs, (flats_cells b).h _ _ _ _ ha, h⟩⟩
section
variable {P : Program} {Γ : Cx} {σ : St} {S : List Nat} {dst : Option Tmp} {ty : TypeId} {pos : String} {af : Array Edge} {gd : Option (Nat × Bool)} {d : D} {a : Act} {w : World}
end
end Sx
end Go.Proofs.YtgokpcnabgacnaaGreatDoor
namespace Go.Proofs.YtgokpcnabgacnaaGreatDoor
open Go.RowKit
namespace Sx
inductive El
 | k (b : List UInt8)
 | x (A : Option Addr) (n c : Nat)
def encX : El → List D
 | .k b => [bD b]
 | .x A n c => [isD (.slice A n c)]
instance : Row encX 1 := ⟨fun e => by cases e <;> rfl, fun e => by cases e <;> (unfold encX; infer_instance), by decide⟩
section
variable {P : Program} {Γ : Cx} {σ : St} {Q : Exit → Act → World → Prop} {a : Act} {w : World}
end
end Sx
end Go.Proofs.YtgokpcnabgacnaaGreatDoor
