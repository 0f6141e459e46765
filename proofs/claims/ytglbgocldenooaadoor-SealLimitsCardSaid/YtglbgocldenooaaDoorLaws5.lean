/-
  APPEND to a row of bytes of the call's own, in this program's numbers.
-/
import Derived.Test.YtglbgocldenooaaDoorLaws3
import Derived.Test.YtglbgocldenooaaDoorComp
namespace Go.Proofs.YtglbgocldenooaaDoor
open Go.RowKit

theorem info8 : (Tryd.prog.info? 5).map (fun i => (i.zero, i.size, i.bytes)) = some (some (.int .u8 0), 1, 1) := by kernel_rfl

section
variable {w : World} {ops : Array Oper} {rest : List Oper} {o : Oper} {a : Act} {Q : Exit → Act → World → Prop}
theorem wpl_append8 (hgd : o.guard = none) (s x : Operand) (ho : o.op = .call { callee := .builtin .append, args := #[s, x], argTypes := #[22, 22] })
    (A : Option Addr) (n c : Nat) (xs : List UInt8) (G : Option Nat) (hs : a.eval s = .slice A n c) (hn : n = xs.length) (hown : OwnS w 5 A c (cellsOf xs) G)
    (B : Option Addr) (m d : Nat) (ys : List UInt8) (hx : a.eval x = .slice B m d) (hm : m = ys.length) (hr : RV w B (cellsOf ys))
    (hlen : xs.length + ys.length ≤ 1099511627776)
    (h : ∀ A' c' w' G', OwnS w' 5 A' c' (cellsOf (xs ++ ys)) G' → Only G.toList w w' → (G' = G ∨ G' = some w.heap.size) → wpList Tryd.prog ops Q rest (a.put o.dst (.slice A' (n + m) c')) w') : wpList Tryd.prog ops Q (o :: rest) a w := by
  have hi := info8
  cases hI : Tryd.prog.info? 5 with
  | none => rw [hI] at hi; cases hi
  | some i =>
    rw [hI] at hi
    injection hi with hi
    injection hi with h1 h2
    injection h2 with h2 h3
    refine wpl_append hgd s x 22 ho 5 i (.int .u8 0) 1 Tryd.underlying22 hI h1 h2 h3 rfl A n c (cellsOf xs) G hs (by simpa using hn) hown B m d (cellsOf ys) hx (by simpa using hm) hr cellsOf_one (by simpa using hlen) (by decide) fun A' c' w' G' hw hO hG => h A' c' w' G' (by simpa [cellsOf] using hw) hO hG
/-- a guarded operation that is wanted -/
theorem wpl_wanted {P : Program} (hw : Region.wanted o (yielded ops a.tmps) = true) (h : wpList P ops Q ({ o with guard := none } :: rest) a w) : wpList P ops Q (o :: rest) a w := by
  unfold wpList at h ⊢
  rw [if_pos hw]
  rw [if_pos (by simp [Region.wanted])] at h
  exact h
/-- an array of 32 bytes into a block of its own -/
theorem wpl_put32 (hgd : o.guard = none) (x y : Operand) (ho : o.op = .store 24 x y) (g : Nat) (bs : List UInt8) (hx : a.eval x = .pointer (some ⟨g, 0, none⟩)) (hy : a.eval y = .agg (cellsOf bs).toArray)
    (cur : List Value) (hb : Blk w g 24 cur) (hc : cur.length = 32) (hl : bs.length = 32)
    (h : ∀ w', Blk w' g 24 (cellsOf bs) → Only [g] w w' → wpList Tryd.prog ops Q rest (a.put o.dst undef) w') : wpList Tryd.prog ops Q (o :: rest) a w := by
  have hs : (Tryd.prog.info? 24).map (·.size) = some 32 := by kernel_rfl
  exact wpl_store_all hgd _ x y ho g (cellsOf bs) hx hy _ cur hb (by simp [hc, hl]) (by simpa [hl] using hs) cellsOf_one h
end
end Go.Proofs.YtglbgocldenooaaDoor
