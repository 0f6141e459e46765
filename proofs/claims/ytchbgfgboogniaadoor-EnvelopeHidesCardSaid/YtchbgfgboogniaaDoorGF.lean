/-
  THE WALKS of the reference's small functions: Words, Row, Lane, Right, G.
  THE WALKS of the reference's Right and G.
  APPEND to a row of bytes of the call's own, in this program's numbers.
  THE WALK of the reference's Compress.
  THE WALK of the reference's Hash: it computes Bl.hash.
  append onto a slice of the call's own, told exactly: in place, or into a new block with nothing else changed. Over any program; then for bytes.
  make and []byte(s), in the words of XMem; over any program, then for bytes.
-/
import Derived.Test.YtchbgfgboogniaaDoorGD
import Derived.Test.YtchbgfgboogniaaDoorGA
import Derived.Test.YtchbgfgboogniaaDoorGB
import Derived.Test.YtchbgfgboogniaaDoorGC
import Derived.Laws.MakeOwn
import Derived.Lib.ConvBytes
namespace Go.Proofs.YtchbgfgboogniaaDoor
open Go.RowKit
theorem Blk.new' (w : World) {t : TypeId} {A : Array Value} {cs : List Value} (h : A = cs.toArray) : Blk (w.alloc (.cells A t)) w.heap.size t cs := by subst h; exact Blk.new w t cs
end Go.Proofs.YtchbgfgboogniaaDoor
namespace Go.Proofs.YtchbgfgboogniaaDoor
open Go.RowKit
end Go.Proofs.YtchbgfgboogniaaDoor
namespace Go.Proofs.YtchbgfgboogniaaDoor
open Go.RowKit
theorem info8 : (Tryd.prog.info? 5).map (fun i => (i.zero, i.size, i.bytes)) = some (some (.int .u8 0), 1, 1) := by kernel_rfl

section
variable {w : World} {ops : Array Oper} {rest : List Oper} {o : Oper} {a : Act} {Q : Exit → Act → World → Prop}
theorem wpl_append8 (hgd : o.guard = none) (s x : Operand) (ho : o.op = .call { callee := .builtin .append, args := #[s, x], argTypes := #[23, 23] })
    (A : Option Addr) (n c : Nat) (xs : List UInt8) (G : Option Nat) (hs : a.eval s = .slice A n c) (hn : n = xs.length) (hown : OwnS w 5 A c (cellsOf xs) G)
    (B : Option Addr) (m d : Nat) (ys : List UInt8) (hx : a.eval x = .slice B m d) (hm : m = ys.length) (hr : RV w B (cellsOf ys))
    (hlen : xs.length + ys.length ≤ 1099511627776)
    (h : ∀ A' c' w' G', OwnS w' 5 A' c' (cellsOf (xs ++ ys)) G' → Only G.toList w w' → (G' = G ∨ G' = some w.heap.size) → wpList Tryd.prog ops Q rest (a.put o.dst (.slice A' (n + m) c')) w') : wpList Tryd.prog ops Q (o :: rest) a w := by
  have hi := info8
  cases hI : Tryd.prog.info? 5 with
  | none => rw [hI] at hi; cases hi
  | some i =>
    rw [hI] at hi
    injection hi with hi
    injection hi with h1 h2
    injection h2 with h2 h3
    refine wpl_append hgd s x 23 ho 5 i (.int .u8 0) 1 Tryd.underlying23 hI h1 h2 h3 rfl A n c (cellsOf xs) G hs (by simpa using hn) hown B m d (cellsOf ys) hx (by simpa using hm) hr cellsOf_one (by simpa using hlen) (by decide) fun A' c' w' G' hw hO hG => h A' c' w' G' (by simpa [cellsOf] using hw) hO hG
/-- an array of 32 bytes into a block of its own -/
theorem wpl_put32 (hgd : o.guard = none) (x y : Operand) (ho : o.op = .store 104 x y) (g : Nat) (bs : List UInt8) (hx : a.eval x = .pointer (some ⟨g, 0, none⟩)) (hy : a.eval y = .agg (cellsOf bs).toArray)
    (cur : List Value) (hb : Blk w g 104 cur) (hc : cur.length = 32) (hl : bs.length = 32)
    (h : ∀ w', Blk w' g 104 (cellsOf bs) → Only [g] w w' → wpList Tryd.prog ops Q rest (a.put o.dst undef) w') : wpList Tryd.prog ops Q (o :: rest) a w := by
  have hs : (Tryd.prog.info? 104).map (·.size) = some 32 := by kernel_rfl
  exact wpl_store_all hgd _ x y ho g (cellsOf bs) hx hy _ cur hb (by simp [hc, hl]) (by simpa [hl] using hs) cellsOf_one h
end
end Go.Proofs.YtchbgfgboogniaaDoor
namespace Go.Proofs.YtchbgfgboogniaaDoor
open Go.RowKit
section
variable {w : World} {ops : Array Oper} {rest : List Oper} {o : Oper} {a : Act} {Q : Exit → Act → World → Prop}
end
namespace Bl
end Bl
end Go.Proofs.YtchbgfgboogniaaDoor
namespace Go.Proofs.YtchbgfgboogniaaDoor
open Go.RowKit
namespace Bl
end Bl
end Go.Proofs.YtchbgfgboogniaaDoor
namespace Go.Proofs.YtchbgfgboogniaaDoor
open Go.RowKit
section
variable {P : Program} {w : World} {ops : Array Oper} {rest : List Oper} {o : Oper} {a : Act} {Q : Exit → Act → World → Prop}
end
section
variable {w : World} {ops : Array Oper} {rest : List Oper} {o : Oper} {a : Act} {Q : Exit → Act → World → Prop}
theorem wpl_app8 (hgd : o.guard = none) (s x : Operand) (ho : o.op = .call { callee := .builtin .append, args := #[s, x], argTypes := #[23, 23] })
    (A : Option Addr) (n c : Nat) (xs : List UInt8) (G : Option Nat) (hs : a.eval s = .slice A n c) (hn : n = xs.length) (hown : OwnS w 5 A c (cellsOf xs) G)
    (B : Option Addr) (m d : Nat) (ys : List UInt8) (hx : a.eval x = .slice B m d) (hm : m = ys.length) (hr : RV w B (cellsOf ys))
    (hlen : xs.length + ys.length ≤ 1099511627776)
    (h : ∀ A' c' w' G', OwnS w' 5 A' c' (cellsOf (xs ++ ys)) G' → ((G' = G ∧ A' = A ∧ c' = c ∧ Only G.toList w w') ∨ (G' = some w.heap.size ∧ Only [] w w')) → wpList Tryd.prog ops Q rest (a.put o.dst (.slice A' (n + m) c')) w') : wpList Tryd.prog ops Q (o :: rest) a w := by
  have hi := info8
  cases hI : Tryd.prog.info? 5 with
  | none => rw [hI] at hi; cases hi
  | some i =>
    rw [hI] at hi
    injection hi with hi
    injection hi with h1 h2
    injection h2 with h2 h3
    obtain ⟨A', c', w', G', hrun, hown', hG⟩ := run_app (P := Tryd.prog) 23 o.type 5 i (.int .u8 0) 1 Tryd.underlying23 hI h1 h2 h3 rfl A c (cellsOf xs) G hown B d (cellsOf ys) hr cellsOf_one (by simpa using hlen) (by decide)
    subst hn hm
    refine wpList_plain hgd fun K hK => ?_
    unfold Oper.wp execOp
    simp only [ho, resolve, invoke, builtin, Sem.run_bind, Sem.run_pure, Result.andThen_ok, List.map_toArray, List.map_cons, List.map_nil, hs, hx]
    simp only [cellsOf_length] at hrun
    rw [hrun]
    exact hK _ _ (h A' c' w' G' (by rw [cellsOf_append]; exact hown') hG)
end
end Go.Proofs.YtchbgfgboogniaaDoor
namespace Go.Proofs.YtchbgfgboogniaaDoor
open Go.RowKit
section
variable {P : Program} {w : World} {ops : Array Oper} {rest : List Oper} {o : Oper} {a : Act} {Q : Exit → Act → World → Prop}
end
end Go.Proofs.YtchbgfgboogniaaDoor
