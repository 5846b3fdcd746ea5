/- A store into a larger block that is known whole (printed by gen_blx.py). -/
import Derived.Test.YtalgfekpcklijaaGreatGb
namespace Go.Proofs.YtalgfekpcklijaaGreat.Kt
open Go.RowKit
set_option linter.unusedVariables false
set_option linter.unusedSimpArgs false
/-- a block's cells in one rule: the walk reckons cs[i]? by itself (shorter and faster than a fact a cell). -/
theorem Blk.ev {w : World} {g : Nat} {cs : Array Value} {t : TypeId} (h : Blk w g cs t) : (∀ i, w.cell? ⟨g, i, none⟩ = cs[i]?) ∧ (∀ i, w.frozen? ⟨g, i, none⟩ = false) ∧ g < w.heap.size ∧ g ≠ w.heap.size ∧ w.heap.size ≠ g := by
  refine ⟨fun i => ?_, h.frozen, h.lt, Nat.ne_of_lt h.lt, (Nat.ne_of_lt h.lt).symm⟩
  have h' := h
  unfold Blk at h'
  simp [World.cell?, h']
theorem Blk.all11 {w : World} {g : Nat} {t : TypeId} {v0 v1 v2 v3 v4 v5 v6 v7 v8 v9 v10 : Value} (h : Blk w g #[v0, v1, v2, v3, v4, v5, v6, v7, v8, v9, v10] t) : w.cell? ⟨g, 0, none⟩ = some v0 ∧ w.cell? ⟨g, 1, none⟩ = some v1 ∧ w.cell? ⟨g, 2, none⟩ = some v2 ∧ w.cell? ⟨g, 3, none⟩ = some v3 ∧ w.cell? ⟨g, 4, none⟩ = some v4 ∧ w.cell? ⟨g, 5, none⟩ = some v5 ∧ w.cell? ⟨g, 6, none⟩ = some v6 ∧ w.cell? ⟨g, 7, none⟩ = some v7 ∧ w.cell? ⟨g, 8, none⟩ = some v8 ∧ w.cell? ⟨g, 9, none⟩ = some v9 ∧ w.cell? ⟨g, 10, none⟩ = some v10 ∧ (∀ i, w.frozen? ⟨g, i, none⟩ = false) ∧ g < w.heap.size ∧ g ≠ w.heap.size ∧ w.heap.size ≠ g := ⟨h.cell 0, h.cell 1, h.cell 2, h.cell 3, h.cell 4, h.cell 5, h.cell 6, h.cell 7, h.cell 8, h.cell 9, h.cell 10, h.frozen, h.lt, Nat.ne_of_lt h.lt, (Nat.ne_of_lt h.lt).symm⟩
theorem Blk.set11_0 {w : World} {g : Nat} {t : TypeId} {v0 v1 v2 v3 v4 v5 v6 v7 v8 v9 v10 : Value} (h : Blk w g #[v0, v1, v2, v3, v4, v5, v6, v7, v8, v9, v10] t) (u : Value) : Blk (w.setCell ⟨g, 0, none⟩ u) g #[u, v1, v2, v3, v4, v5, v6, v7, v8, v9, v10] t := blk_put h 0 u
theorem Blk.set11_1 {w : World} {g : Nat} {t : TypeId} {v0 v1 v2 v3 v4 v5 v6 v7 v8 v9 v10 : Value} (h : Blk w g #[v0, v1, v2, v3, v4, v5, v6, v7, v8, v9, v10] t) (u : Value) : Blk (w.setCell ⟨g, 1, none⟩ u) g #[v0, u, v2, v3, v4, v5, v6, v7, v8, v9, v10] t := blk_put h 1 u
theorem Blk.set11_2 {w : World} {g : Nat} {t : TypeId} {v0 v1 v2 v3 v4 v5 v6 v7 v8 v9 v10 : Value} (h : Blk w g #[v0, v1, v2, v3, v4, v5, v6, v7, v8, v9, v10] t) (u : Value) : Blk (w.setCell ⟨g, 2, none⟩ u) g #[v0, v1, u, v3, v4, v5, v6, v7, v8, v9, v10] t := blk_put h 2 u
theorem Blk.set11_3 {w : World} {g : Nat} {t : TypeId} {v0 v1 v2 v3 v4 v5 v6 v7 v8 v9 v10 : Value} (h : Blk w g #[v0, v1, v2, v3, v4, v5, v6, v7, v8, v9, v10] t) (u : Value) : Blk (w.setCell ⟨g, 3, none⟩ u) g #[v0, v1, v2, u, v4, v5, v6, v7, v8, v9, v10] t := blk_put h 3 u
theorem Blk.set11_4 {w : World} {g : Nat} {t : TypeId} {v0 v1 v2 v3 v4 v5 v6 v7 v8 v9 v10 : Value} (h : Blk w g #[v0, v1, v2, v3, v4, v5, v6, v7, v8, v9, v10] t) (u : Value) : Blk (w.setCell ⟨g, 4, none⟩ u) g #[v0, v1, v2, v3, u, v5, v6, v7, v8, v9, v10] t := blk_put h 4 u
theorem Blk.set11_5 {w : World} {g : Nat} {t : TypeId} {v0 v1 v2 v3 v4 v5 v6 v7 v8 v9 v10 : Value} (h : Blk w g #[v0, v1, v2, v3, v4, v5, v6, v7, v8, v9, v10] t) (u : Value) : Blk (w.setCell ⟨g, 5, none⟩ u) g #[v0, v1, v2, v3, v4, u, v6, v7, v8, v9, v10] t := blk_put h 5 u
theorem Blk.set11_6 {w : World} {g : Nat} {t : TypeId} {v0 v1 v2 v3 v4 v5 v6 v7 v8 v9 v10 : Value} (h : Blk w g #[v0, v1, v2, v3, v4, v5, v6, v7, v8, v9, v10] t) (u : Value) : Blk (w.setCell ⟨g, 6, none⟩ u) g #[v0, v1, v2, v3, v4, v5, u, v7, v8, v9, v10] t := blk_put h 6 u
theorem Blk.set11_7 {w : World} {g : Nat} {t : TypeId} {v0 v1 v2 v3 v4 v5 v6 v7 v8 v9 v10 : Value} (h : Blk w g #[v0, v1, v2, v3, v4, v5, v6, v7, v8, v9, v10] t) (u : Value) : Blk (w.setCell ⟨g, 7, none⟩ u) g #[v0, v1, v2, v3, v4, v5, v6, u, v8, v9, v10] t := blk_put h 7 u
theorem Blk.set11_8 {w : World} {g : Nat} {t : TypeId} {v0 v1 v2 v3 v4 v5 v6 v7 v8 v9 v10 : Value} (h : Blk w g #[v0, v1, v2, v3, v4, v5, v6, v7, v8, v9, v10] t) (u : Value) : Blk (w.setCell ⟨g, 8, none⟩ u) g #[v0, v1, v2, v3, v4, v5, v6, v7, u, v9, v10] t := blk_put h 8 u
theorem Blk.set11_9 {w : World} {g : Nat} {t : TypeId} {v0 v1 v2 v3 v4 v5 v6 v7 v8 v9 v10 : Value} (h : Blk w g #[v0, v1, v2, v3, v4, v5, v6, v7, v8, v9, v10] t) (u : Value) : Blk (w.setCell ⟨g, 9, none⟩ u) g #[v0, v1, v2, v3, v4, v5, v6, v7, v8, u, v10] t := blk_put h 9 u
theorem Blk.set11_10 {w : World} {g : Nat} {t : TypeId} {v0 v1 v2 v3 v4 v5 v6 v7 v8 v9 v10 : Value} (h : Blk w g #[v0, v1, v2, v3, v4, v5, v6, v7, v8, v9, v10] t) (u : Value) : Blk (w.setCell ⟨g, 10, none⟩ u) g #[v0, v1, v2, v3, v4, v5, v6, v7, v8, v9, u] t := blk_put h 10 u
end Go.Proofs.YtalgfekpcklijaaGreat.Kt
