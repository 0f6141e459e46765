/-
  SLICES OF SLICES of which one element's block is still one's own.
-/
import Derived.Test.YtonjpfpdpfonnaaDoorSyW
namespace Go.Proofs.YtonjpfpdpfonnaaDoor
open Go.RowKit
namespace Sx
/-- An element: bytes that are known, or just this slice. -/
inductive El
  | k (b : List UInt8)
  | x (A : Option Addr) (n c : Nat)
def encX : El → List D
  | .k b => [bD b]
  | .x A n c => [isD (.slice A n c)]
instance : Row encX 1 := ⟨fun e => by cases e <;> rfl, fun e => by cases e <;> (unfold encX; infer_instance), by decide⟩
theorem flat_k : ∀ (l : List (List UInt8)), (l.map El.k).flatMap encX = l.flatMap encL
  | [] => rfl
  | b :: l => by rw [List.map_cons, List.flatMap_cons, List.flatMap_cons, flat_k l]; rfl
theorem all_el {L : List Nat} {w : World} {A : Option Addr} {n c : Nat} {bs : List UInt8} (hb : (bD bs).R L w (.slice A n c)) : ∀ (l1 l2 : List El) (xs : List Value), All L w ((l1 ++ [El.x A n c] ++ l2).flatMap encX) xs → All L w ((l1 ++ [El.k bs] ++ l2).flatMap encX) xs
  | [], l2, [], h => h.elim
  | [], l2, v :: xs, h => ⟨by obtain rfl : v = .slice A n c := h.1; exact hb, h.2⟩
  | .k b :: l1, l2, [], h => h.elim
  | .x B m d :: l1, l2, [], h => h.elim
  | .k b :: l1, l2, v :: xs, h => ⟨h.1, all_el hb l1 l2 xs h.2⟩
  | .x B m d :: l1, l2, v :: xs, h => ⟨h.1, all_el hb l1 l2 xs h.2⟩
theorem fps_set : ∀ (bs : List Box) (k : Nat) (b b' : Box), bs[k]? = some b → b'.fp = b.fp → fps (bs.set k b') = fps bs
  | [], k, b, b', h, _ => by simp at h
  | c :: bs, 0, b, b', h, hf => by
    simp at h
    subst h
    simp only [List.set_cons_zero, fps_cons, hf]
  | c :: bs, k + 1, b, b', h, hf => by
    simp only [List.set_cons_succ, fps_cons]
    rw [fps_set bs k b b' (by simpa using h) hf]
section
variable {P : Program} {Γ : Cx} {σ : St} {Q : Exit → Act → World → Prop} {a : Act} {w : World}
/-- A box is seen in another way. -/
theorem Holds.rebox (h : Holds Γ σ a w) {k : Nat} {b b' : Box} (hk : σ.bx[k]? = some b) (hf : b'.fp = b.fp) (hR : b'.R (σ.L Γ) w) : Holds Γ ⟨σ.tm, σ.bx.set k b'⟩ a w := by
  have e := fps_set σ.bx k b b' hk hf
  refine h.swap (Only.refl [] w) (by simp) (fun c hc => ?_) (fun g hg => .inl (by rw [e] at hg; exact hg)) (by rw [e]; exact h.nd)
  rcases List.mem_or_eq_of_mem_set hc with hc | rfl
  · exact .inl ⟨hc, by simp⟩
  · exact .inr (by rw [e]; exact hR)
/-- The element's block is let go of. -/
theorem Holds.freezeIn (h : Holds Γ σ a w) {j m e c e2 c2 : Nat} {A A2 : Option Addr} {F G : List Nat} {bs : List UInt8} {l1 l2 : List El} (hj : σ.bx[j]? = some (.r F (vecT e 1 encB A c bs)))
    (hm : (dropAt σ.bx 0 [j])[m]? = some (.r G (vecT e2 1 encX A2 c2 (l1 ++ [El.x A bs.length c] ++ l2)))) : Holds Γ ⟨σ.tm, (dropAt σ.bx 0 [j]).set m (.r G (vecT e2 1 encX A2 c2 (l1 ++ [El.k bs] ++ l2)))⟩ a w := by
  have h1 := h.drop [j]
  obtain ⟨hc, hat⟩ := own_at (h.resAt hj) (L' := St.L Γ ⟨σ.tm, dropAt σ.bx 0 [j]⟩) (fun x hx => .inl (by
    rcases List.mem_append.1 hx with hx | hx
    · exact List.mem_append_left _ (dropAt_fps hx)
    · exact List.mem_append_right _ hx)) (fun g hg => apart_drop h hj hg)
  have hb : (bD bs).R (St.L Γ ⟨σ.tm, dropAt σ.bx 0 [j]⟩) w (.slice A bs.length c) := le_ls_b bs _ _ _ ⟨A, c, rfl, hc, hat⟩
  refine h1.rebox hm rfl ?_
  obtain ⟨xs, ha, ho, hF⟩ := h1.resAt hm
  refine ⟨xs, all_el hb l1 l2 xs ha, ?_, ?_⟩
  · simpa using ho
  · simpa using hF
theorem SN.freezeIn (j m : Nat) {e c e2 c2 : Nat} {A A2 : Option Addr} {F G : List Nat} {bs : List UInt8} {l1 l2 : List El} (hj : σ.bx[j]? = some (.r F (vecT e 1 encB A c bs)))
    (hm : (dropAt σ.bx 0 [j])[m]? = some (.r G (vecT e2 1 encX A2 c2 (l1 ++ [El.x A bs.length c] ++ l2)))) (h : SN Γ Q ⟨σ.tm, (dropAt σ.bx 0 [j]).set m (.r G (vecT e2 1 encX A2 c2 (l1 ++ [El.k bs] ++ l2)))⟩) : SN Γ Q σ := fun a w hh => h a w (hh.freezeIn hj hm)
theorem SW.freezeIn {cd : Code} (j m : Nat) {e c e2 c2 : Nat} {A A2 : Option Addr} {F G : List Nat} {bs : List UInt8} {l1 l2 : List El} (hj : σ.bx[j]? = some (.r F (vecT e 1 encB A c bs)))
    (hm : (dropAt σ.bx 0 [j])[m]? = some (.r G (vecT e2 1 encX A2 c2 (l1 ++ [El.x A bs.length c] ++ l2)))) (h : SW P Γ ⟨σ.tm, (dropAt σ.bx 0 [j]).set m (.r G (vecT e2 1 encX A2 c2 (l1 ++ [El.k bs] ++ l2)))⟩ cd Q) : SW P Γ σ cd Q := fun a w hh => h a w (hh.freezeIn hj hm)
end
end Sx
end Go.Proofs.YtonjpfpdpfonnaaDoor
