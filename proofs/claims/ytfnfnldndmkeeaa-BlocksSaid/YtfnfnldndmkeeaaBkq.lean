/- Layer 10: rows of whole pieces, in plain Lean. -/
import Derived.Test.YtfnfnldndmkeeaaBku
namespace Go.Proofs.Ytfnfnldndmkeeaa.Bk
open Go.RowKit Go.Proofs.Ytfnfnldndmkeeaa.Kt Go.Proofs.Ytfnfnldndmkeeaa.Lw Go.Proofs.Ytfnfnldndmkeeaa.St
set_option linter.unusedVariables false
set_option linter.unusedSimpArgs false
/-- all whole but the last. -/
def Whole (xs : List ByteArray) : Prop := ∀ i x, xs[i]? = some x → 1 ≤ x.size ∧ x.size ≤ 32 ∧ (i + 1 < xs.length → x.size = 32)
theorem size_chunk (s : ByteArray) (k : Nat) : (chunkB s k).size = min (32 * k + 32) s.size - 32 * k := by
  unfold chunkB
  rw [ByteArray.size_extract]
  omega
theorem whole_split (s : ByteArray) : Whole (splitL s) := by
  intro i x hx
  rw [split_len]
  have hm : 32 * manyN s ≤ s.size + 31 ∧ s.size ≤ 32 * manyN s := by unfold manyN; omega
  have hi : i < manyN s := by
    rcases Nat.lt_or_ge i (splitL s).length with h | h
    · rwa [split_len] at h
    · rw [List.getElem?_eq_none h] at hx; cases hx
  have e : x = chunkB s i := by
    have : (splitL s)[i]? = some (chunkB s i) := by simp [splitL, chunks, hi]
    rw [this] at hx
    exact (Option.some.inj hx).symm
  rw [e, size_chunk]
  omega
theorem data_ext {s t : ByteArray} (h : s.data.toList = t.data.toList) : s = t := by
  obtain ⟨a⟩ := s
  obtain ⟨b⟩ := t
  exact congrArg ByteArray.mk (Array.toList_inj.1 h)
theorem data_len (s : ByteArray) : s.data.toList.length = s.size := by simp
theorem chunk_zero {x t : ByteArray} (h : x.size = 32) : chunkB (x ++ t) 0 = x := by
  apply data_ext
  have hl := data_len x
  unfold chunkB
  rw [ByteArray.size_append]
  simp only [ByteArray.data_extract, Array.toList_extract, List.extract, ByteArray.data_append, Array.toList_append]
  rw [show min (32 * 0 + 32) (x.size + t.size) - 32 * 0 = x.data.toList.length by omega]
  simp
theorem chunk_next {x t : ByteArray} (h : x.size = 32) (k : Nat) : chunkB (x ++ t) (k + 1) = chunkB t k := by
  apply data_ext
  have hl := data_len x
  unfold chunkB
  rw [ByteArray.size_append]
  simp only [ByteArray.data_extract, Array.toList_extract, List.extract, ByteArray.data_append, Array.toList_append]
  rw [show 32 * (k + 1) = x.data.toList.length + 32 * k by omega, List.drop_length_add_append]
  congr 1
  omega
theorem split_cons {x t : ByteArray} (h : x.size = 32) : splitL (x ++ t) = x :: splitL t := by
  have hm : manyN (x ++ t) = manyN t + 1 := by
    unfold manyN
    rw [ByteArray.size_append]
    omega
  unfold splitL chunks
  rw [hm, List.range_succ_eq_map, List.map_cons, List.map_map, chunk_zero h]
  congr 1
  apply List.map_congr_left
  intro k _
  exact chunk_next h k
theorem split_one {x : ByteArray} (h : 1 ≤ x.size) (h' : x.size ≤ 32) : splitL x = [x] := by
  have hm : manyN x = 1 := by unfold manyN; omega
  unfold splitL chunks
  rw [hm]
  show [chunkB x 0] = [x]
  congr 1
  apply data_ext
  have hl := data_len x
  unfold chunkB
  simp only [ByteArray.data_extract, Array.toList_extract, List.extract]
  rw [show min (32 * 0 + 32) x.size - 32 * 0 = x.data.toList.length by omega]
  show List.take _ (List.drop 0 _) = _
  rw [List.drop_zero, List.take_length]
theorem cat_cons (x : ByteArray) (xs : List ByteArray) : catL (x :: xs) = x ++ catL xs := by
  apply data_ext
  simp [catL, ByteArray.data_append]
theorem split_whole : ∀ {xs : List ByteArray}, Whole xs → splitL (catL xs) = xs
  | [], _ => by
    have hm : manyN (catL []) = 0 := by decide
    unfold splitL chunks
    rw [hm]
    rfl
  | [x], h => by
    have h0 := h 0 x rfl
    have e : catL [x] = x := by
      apply data_ext
      simp [catL]
    rw [e]
    exact split_one h0.1 h0.2.1
  | x :: y :: r, h => by
    have h0 := h 0 x rfl
    rw [cat_cons, split_cons (h0.2.2 (by simp))]
    congr 1
    refine split_whole (xs := y :: r) fun i z hz => ?_
    have := h (i + 1) z (by simpa using hz)
    refine ⟨this.1, this.2.1, fun hl => this.2.2 (by simp at hl ⊢; omega)⟩
/-- what is split comes back. -/
theorem cat_chunks (s : ByteArray) : ∀ k, k ≤ manyN s → catL (chunks s k) = s.extract 0 (min (32 * k) s.size)
  | 0, _ => by
    apply data_ext
    simp [catL, chunks]
  | k + 1, hk => by
    have hm : 32 * manyN s ≤ s.size + 31 ∧ s.size ≤ 32 * manyN s := by unfold manyN; omega
    rw [chunks_succ]
    have ih := cat_chunks s k (by omega)
    have e : catL (chunks s k ++ [chunkB s k]) = catL (chunks s k) ++ chunkB s k := by
      apply data_ext
      simp [catL, ByteArray.data_append]
    rw [e, ih]
    unfold chunkB
    rw [Nat.min_eq_left (show 32 * k ≤ s.size by omega), ByteArray.extract_append_extract]
    congr 1 <;> omega
theorem cat_split (s : ByteArray) : catL (splitL s) = s := by
  unfold splitL
  rw [cat_chunks s _ (Nat.le_refl _)]
  have hm : s.size ≤ 32 * manyN s := by unfold manyN; omega
  rw [Nat.min_eq_right hm, ByteArray.extract_zero_size]
end Go.Proofs.Ytfnfnldndmkeeaa.Bk
