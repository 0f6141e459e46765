/-
  MORE LAWS OF SINGLE OPERATIONS, over any program: clear, append onto a row of the call's own, a slice of bytes turned into a string.
-/
import Derived.Test.YtddfphneidcibaaLaws
namespace Go.Proofs.Ytddfphneidcibaa
open Go.RowKit

section
variable {P : Program} {w : World} {ops : Array Oper} {rest : List Oper} {o : Oper} {a : Act} {Q : Exit → Act → World → Prop}

theorem zeroCells_one (z : Value) (n : Nat) : (Builtin.zeroCells #[z] n).toList = List.replicate n z := by
  apply List.ext_getElem?
  intro i
  simp only [Builtin.zeroCells, Array.toList_map, Array.toList_range, List.getElem?_map, List.getElem?_replicate]
  by_cases h : i < n
  · rw [List.getElem?_range (by simpa using h)]; simp [h, Nat.mod_one]
  · rw [List.getElem?_eq_none (by simpa using h)]; simp [h]

/-- clear(s) of a slice of one-cell elements in a block that is known whole. -/
theorem wpl_clear (hgd : o.guard = none) (x : Operand) (t : TypeId) (ho : o.op = .call { callee := .builtin .clear, args := #[x], argTypes := #[t] })
    (e : TypeId) (hu : P.underlying t = some (.slice e)) (i : TypeInfo) (hi : P.info? e = some i) (z : Value) (hz : i.zero = some z) (hzc : z.cells = #[z]) (hz1 : z.oneCell' = true)
    (A : Option Addr) (n c : Nat) (hx : a.eval x = .slice A n c) (g off : Nat) (tt : TypeId) (cur : List Value) (hb : Blk w g tt cur) (hA : 0 < n → A = some ⟨g, off, none⟩) (hfit : off + n ≤ cur.length)
    (h : ∀ w', Blk w' g tt (cur.take off ++ (List.replicate n z ++ cur.drop (off + n))) → Only [g] w w' → wpList P ops Q rest (a.put o.dst (.tuple #[])) w') : wpList P ops Q (o :: rest) a w := by
  refine wpList_plain hgd fun K hK => ?_
  unfold Oper.wp execOp
  simp only [ho, resolve, invoke, builtin, Sem.run_bind, Sem.run_pure, Result.andThen_ok, List.map_toArray, List.map_cons, List.map_nil, hx]
  by_cases h0 : n = 0
  · subst h0
    have hr : (Builtin.clear_ #[t] o.type #[.slice A 0 c]).run P w = .ok (.tuple #[]) w := by
      cases A <;> simp [Builtin.clear_, run_underlying hu]
    rw [hr]
    exact hK _ _ (h w (by simpa using hb) (Only.refl _ _))
  · obtain rfl := hA (by omega)
    obtain ⟨h1, h2⟩ := blk_setCells (List.replicate n z) off cur w hb (by simpa using hfit)
    have hst := run_storeCells_cells (P := P) g off (List.replicate n z) 0 w
      (fun j hj => by rw [Nat.add_zero, hb.cell]; have : off + j < cur.length := by simp at hj; omega
                      simp [this]) (fun j _ => hb.frozen _) (fun v hv => by rw [List.eq_of_mem_replicate hv]; exact hz1)
    have hr : (Builtin.clear_ #[t] o.type #[.slice (some ⟨g, off, none⟩) n c]).run P w = .ok (.tuple #[]) (w.setCells g off (List.replicate n z)) := by
      obtain ⟨m, rfl⟩ : ∃ m, n = m + 1 := ⟨n - 1, by omega⟩
      simp [Builtin.clear_, run_underlying hu, zeroValue, typeInfo, hi, hz, hzc, zeroCells_one, hst]
    rw [hr]
    refine hK _ _ (h _ ?_ h2)
    simpa using h1
end
end Go.Proofs.Ytddfphneidcibaa
