/-
  BLAKE2s in plain Lean, the message as a whole: the state after so many blocks, the hash of a message, of a string with a key. No program in sight.
-/
import Derived.Test.YtglbgocldenooaaDoorPlain
namespace Go.Proofs.YtglbgocldenooaaDoor
namespace Bl
/-- The first state with a key of n bytes. -/
def st0 (n : Nat) : List Nat := iv.set 0 (1779033703 ^^^ (16842784 + n * 256))
theorem st0_words {n : Nat} (h : n ≤ 32) : Words 8 (st0 n) := iv_words.set 0 (xor_lt _ _ (by decide) (by omega))
/-- The state after q blocks of the message M, none of them the last. -/
def stq (n : Nat) (M : List UInt8) : Nat → List Nat
  | 0 => st0 n
  | q + 1 => comp (stq n M q) (M.drop (64 * q)) (64 * (q + 1)) false
theorem stq_words {n : Nat} {M : List UInt8} (h : n ≤ 32) : ∀ q, Words 8 (stq n M q)
  | 0 => st0_words h
  | q + 1 => comp_words (stq_words h q)
theorem mws_congr {a b : List UInt8} (h : ∀ j, j < 64 → a.getD j 0 = b.getD j 0) : mws a = mws b := by
  unfold mws
  apply List.map_congr_left
  intro i hi
  have hi := List.mem_range.1 hi
  unfold mw
  rw [h (4 * i) (by omega), h (4 * i + 1) (by omega), h (4 * i + 2) (by omega), h (4 * i + 3) (by omega)]
theorem comp_congr {a b : List UInt8} (h : ∀ j, j < 64 → a.getD j 0 = b.getD j 0) (st : List Nat) (t : Nat) (last : Bool) : comp st a t last = comp st b t last := by
  unfold comp
  rw [mws_congr h]
theorem getD_append_left {α : Type} {a b : List α} {j : Nat} {d : α} (h : j < a.length) : (a ++ b).getD j d = a.getD j d := by
  simp [List.getElem?_append_left h]
theorem stq_append {n : Nat} {M x : List UInt8} : ∀ {q : Nat}, 64 * q ≤ M.length → stq n (M ++ x) q = stq n M q
  | 0, _ => rfl
  | q + 1, h => by
    simp only [stq]
    rw [stq_append (q := q) (by omega)]
    refine comp_congr (fun j hj => ?_) _ _ _
    rw [List.drop_append_of_le_length (by omega)]
    exact getD_append_left (by rw [List.length_drop]; omega)
/-- Eight words as 32 bytes, the least significant one first. -/
def leb (ws : List Nat) : List UInt8 := (List.range 32).map fun i => UInt8.ofNat (ws.getD (i / 4) 0 / 2 ^ (8 * (i % 4)))
@[simp] theorem leb_length (ws : List Nat) : (leb ws).length = 32 := by simp [leb]
/-- The hash of a message with a key of n bytes (the key's block is the message's first). -/
def hashM (n : Nat) (M : List UInt8) : List UInt8 := leb (comp (stq n M ((M.length - 1) / 64)) (M.drop (64 * ((M.length - 1) / 64))) M.length true)
@[simp] theorem hashM_length (n : Nat) (M : List UInt8) : (hashM n M).length = 32 := by simp [hashM]
/-- A key's block. -/
def kblock (key : List UInt8) : List UInt8 := if key.length = 0 then [] else key ++ List.replicate (64 - key.length) 0
def hash (key b : List UInt8) : List UInt8 := hashM key.length (kblock key ++ b)
@[simp] theorem hash_length (key b : List UInt8) : (hash key b).length = 32 := by simp [hash]
end Bl
end Go.Proofs.YtglbgocldenooaaDoor
