/- Layer 10: pieces of an image: in plain Lean. -/
import Derived.Test.YtfnfnldndmkeeaaStr
namespace Go.Proofs.Ytfnfnldndmkeeaa.Bk
open Go.RowKit Go.Proofs.Ytfnfnldndmkeeaa.Kt Go.Proofs.Ytfnfnldndmkeeaa.Lw Go.Proofs.Ytfnfnldndmkeeaa.St
set_option linter.unusedVariables false
set_option linter.unusedSimpArgs false
def chunkB (s : ByteArray) (k : Nat) : ByteArray := s.extract (32 * k) (min (32 * k + 32) s.size)
def chunks (s : ByteArray) (k : Nat) : List ByteArray := (List.range k).map (chunkB s)
theorem chunks_succ (s : ByteArray) (k : Nat) : chunks s (k + 1) = chunks s k ++ [chunkB s k] := by simp [chunks, List.range_succ]
theorem chunks_len (s : ByteArray) (k : Nat) : (chunks s k).length = k := by simp [chunks]
def manyN (s : ByteArray) : Nat := (s.size + 31) / 32
def splitL (s : ByteArray) : List ByteArray := chunks s (manyN s)
theorem split_len (s : ByteArray) : (splitL s).length = manyN s := chunks_len _ _
theorem chunk_full {s : ByteArray} {k : Nat} (h : 32 * k + 32 ≤ s.size) : s.extract (32 * k) (32 * k + 32) = chunkB s k := by
  unfold chunkB
  rw [Nat.min_eq_left h]
theorem chunk_last {s : ByteArray} {k : Nat} (h : s.size ≤ 32 * k + 32) : s.extract (32 * k) s.size = chunkB s k := by
  unfold chunkB
  rw [Nat.min_eq_right h]
theorem vInt {k : IntKind} {a b : Int} (h : a = b) : Value.int k a = .int k b := by rw [h]
end Go.Proofs.Ytfnfnldndmkeeaa.Bk
