/-
  string(b) of a slice of bytes, as a law; over any program.
-/
import Derived.Test.YtddfphneidcibaaLaws3
import Derived.Laws.BytesArg
import Derived.Laws.IdiomStrings
namespace Go.Proofs.Ytddfphneidcibaa
open Go.RowKit
section
variable {P : Program} {w : World} {ops : Array Oper} {rest : List Oper} {o : Oper} {a : Act} {Q : Exit → Act → World → Prop}
theorem run_str {src dst e : TypeId} (hs : P.underlying src = some (.slice e)) (he : P.underlying e = some (.int .u8)) (hd : P.underlying dst = some .string) {A : Option Addr} {n c : Nat} {bs : List UInt8} (hn : n = bs.length) (hr : RV w A (cellsOf bs)) :
    (convert src dst (.slice A n c)).run P w = .ok (.string ⟨bs.toArray⟩) w := by
  subst hn
  rw [run_convert_bytes_string w src dst e A bs.length c hs he hd]
  cases A with
  | none =>
    have : bs = [] := by
      rcases Nat.eq_zero_or_pos bs.length with h | h
      · exact List.eq_nil_of_length_eq_zero h
      · obtain ⟨g, o', h1, _⟩ := hr (by simpa using h)
        cases h1
    subst this
    simp [Conv.bytesToString]
    rfl
  | some ad =>
    have hl := run_loadCells_list (P := P) w ad ((bs.map (fun b => (b.toNat : Int))).map (Value.int .u8)) (fun j v hj => by
      have hj' : j < bs.length := by simpa using (List.getElem?_eq_some_iff.1 hj).1
      obtain ⟨g, o', h1, _, hc⟩ := hr (by simp; omega)
      injection h1 with h1
      subst h1
      rw [Addr.add_mid, hc j (by simpa using hj'), ← hj]
      rw [cellsOf, List.map_map]
      rfl)
    simp only [List.length_map] at hl
    rw [run_bytesToString w ad bs.length c _ hl, foldl_push_byteCells]
    have he0 : ByteArray.empty.data = #[] := rfl
    rw [he0]
    simp
theorem wpl_str (hgd : o.guard = none) (src dst e : TypeId) (x : Operand) (ho : o.op = .convert src dst x) (hs : P.underlying src = some (.slice e)) (he : P.underlying e = some (.int .u8)) (hd : P.underlying dst = some .string)
    (A : Option Addr) (n c : Nat) (bs : List UInt8) (hx : a.eval x = .slice A n c) (hn : n = bs.length) (hr : RV w A (cellsOf bs)) (h : wpList P ops Q rest (a.put o.dst (.string ⟨bs.toArray⟩)) w) : wpList P ops Q (o :: rest) a w :=
  wpList_plain hgd fun K hK => by
    unfold Oper.wp execOp
    simp only [ho, hx, Sem.run_bind, run_str hs he hd hn hr, Result.andThen_ok, Sem.run_pure]
    exact hK _ _ h
end
end Go.Proofs.Ytddfphneidcibaa
