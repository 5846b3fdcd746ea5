/- A store into a block that is known whole; worlds that differ from one another in one block and in new ones. -/
import Derived.Test.YtimnhdmpfndeaaaWld
import Derived.OwnWalk
namespace Go.Proofs.Ytimnhdmpfndeaaa.Kt
open Go.RowKit
set_option linter.unusedVariables false
set_option linter.unusedSimpArgs false
theorem blk_put {w : World} {g : Nat} {t : TypeId} {cs : Array Value} (h : Blk w g cs t) (i : Nat) (u : Value) : Blk (w.setCell ⟨g, i, none⟩ u) g (cs.setIfInBounds i u) t := by
  unfold Blk at h ⊢
  simp [World.setCell, Array.getElem?_modify, h]
theorem Blk.off {w : World} {g b i : Nat} {t : TypeId} {cs : Array Value} {u : Value} (hp : g ≠ b) (h : Blk w g cs t) : Blk (w.setCell ⟨b, i, none⟩ u) g cs t := h.far hp u
/-- behind a call: the block of K, as it then stood. -/
theorem Blk.on {w0 w w1 : World} {g : Nat} {cs0 cs : Array Value} {t : TypeId} (K : Blk w0 g cs0 t) (h : Blk w g cs t) (hb : Below w.heap.size w w1) : Blk w1 g cs t := h.below hb
theorem gb_refl (w : World) (g : Nat) : w.grownBy w (some g) := World.grownBy.refl w _
theorem gb_step {w W w2 : World} {r : Option Nat} (h : w.grownBy W r) (k : W.grownBy w2 r) : w.grownBy w2 r :=
  ⟨k.os.trans h.os, k.tape.trans h.tape, k.output.trans h.output, Nat.le_trans h.size k.size, fun b hb hr => (k.block b (Nat.lt_of_lt_of_le hb h.size) hr).trans (h.block b hb hr)⟩
theorem gb_bel {w W w2 : World} {r : Option Nat} (h : w.grownBy W r) (k : Below W.heap.size W w2) : w.grownBy w2 r :=
  gb_step h ⟨k.os, k.tape, k.output, k.size, fun b hb _ => k.block b hb⟩
theorem gb_alloc {w W : World} {r : Option Nat} (h : w.grownBy W r) (o : Obj) : w.grownBy (W.alloc o) r := gb_step h (World.grownBy_alloc W o r)
theorem gb_drew {w W : World} {r : Option Nat} (h : w.grownBy W r) : w.grownBy W.drew r := ⟨h.os, h.tape, h.output, h.size, h.block⟩
theorem gb_set {w W : World} {g j : Nat} {v : Value} (h : w.grownBy W (some g)) : w.grownBy (W.setCell ⟨g, j, none⟩ v) (some g) :=
  gb_step h ⟨rfl, rfl, rfl, by simp [World.setCell], fun b _ hr => Below.heap_setCell _ _ _ _ (fun e => hr (by rw [e]))⟩
/-- what turned in a block of the call's own alone is nothing to elder memory. -/
theorem bl_gb {w W w2 : World} {g : Nat} (h : Below w.heap.size w W) (k : W.grownBy w2 (some g)) (hg : w.heap.size ≤ g) : Below w.heap.size w w2 := h.grown k h.size (fun q hq => by cases hq; exact hg)
theorem blk_gb {w w' : World} {b g : Nat} {cs : Array Value} {t : TypeId} (h : Blk w b cs t) (k : w.grownBy w' (some g)) (hg : b ≠ g) : Blk w' b cs t :=
  (k.block b h.lt (fun e => hg (by cases e; rfl))).trans h
theorem Blk.set1_0 {w : World} {g : Nat} {t : TypeId} {v0 : Value} (h : Blk w g #[v0] t) (u : Value) : Blk (w.setCell ⟨g, 0, none⟩ u) g #[u] t := blk_put h 0 u
theorem Blk.set2_0 {w : World} {g : Nat} {t : TypeId} {v0 v1 : Value} (h : Blk w g #[v0, v1] t) (u : Value) : Blk (w.setCell ⟨g, 0, none⟩ u) g #[u, v1] t := blk_put h 0 u
theorem Blk.set2_1 {w : World} {g : Nat} {t : TypeId} {v0 v1 : Value} (h : Blk w g #[v0, v1] t) (u : Value) : Blk (w.setCell ⟨g, 1, none⟩ u) g #[v0, u] t := blk_put h 1 u
theorem Blk.set3_0 {w : World} {g : Nat} {t : TypeId} {v0 v1 v2 : Value} (h : Blk w g #[v0, v1, v2] t) (u : Value) : Blk (w.setCell ⟨g, 0, none⟩ u) g #[u, v1, v2] t := blk_put h 0 u
theorem Blk.set3_1 {w : World} {g : Nat} {t : TypeId} {v0 v1 v2 : Value} (h : Blk w g #[v0, v1, v2] t) (u : Value) : Blk (w.setCell ⟨g, 1, none⟩ u) g #[v0, u, v2] t := blk_put h 1 u
theorem Blk.set3_2 {w : World} {g : Nat} {t : TypeId} {v0 v1 v2 : Value} (h : Blk w g #[v0, v1, v2] t) (u : Value) : Blk (w.setCell ⟨g, 2, none⟩ u) g #[v0, v1, u] t := blk_put h 2 u
theorem Blk.set4_0 {w : World} {g : Nat} {t : TypeId} {v0 v1 v2 v3 : Value} (h : Blk w g #[v0, v1, v2, v3] t) (u : Value) : Blk (w.setCell ⟨g, 0, none⟩ u) g #[u, v1, v2, v3] t := blk_put h 0 u
theorem Blk.set4_1 {w : World} {g : Nat} {t : TypeId} {v0 v1 v2 v3 : Value} (h : Blk w g #[v0, v1, v2, v3] t) (u : Value) : Blk (w.setCell ⟨g, 1, none⟩ u) g #[v0, u, v2, v3] t := blk_put h 1 u
theorem Blk.set4_2 {w : World} {g : Nat} {t : TypeId} {v0 v1 v2 v3 : Value} (h : Blk w g #[v0, v1, v2, v3] t) (u : Value) : Blk (w.setCell ⟨g, 2, none⟩ u) g #[v0, v1, u, v3] t := blk_put h 2 u
theorem Blk.set4_3 {w : World} {g : Nat} {t : TypeId} {v0 v1 v2 v3 : Value} (h : Blk w g #[v0, v1, v2, v3] t) (u : Value) : Blk (w.setCell ⟨g, 3, none⟩ u) g #[v0, v1, v2, u] t := blk_put h 3 u
theorem Blk.set5_0 {w : World} {g : Nat} {t : TypeId} {v0 v1 v2 v3 v4 : Value} (h : Blk w g #[v0, v1, v2, v3, v4] t) (u : Value) : Blk (w.setCell ⟨g, 0, none⟩ u) g #[u, v1, v2, v3, v4] t := blk_put h 0 u
theorem Blk.set5_1 {w : World} {g : Nat} {t : TypeId} {v0 v1 v2 v3 v4 : Value} (h : Blk w g #[v0, v1, v2, v3, v4] t) (u : Value) : Blk (w.setCell ⟨g, 1, none⟩ u) g #[v0, u, v2, v3, v4] t := blk_put h 1 u
theorem Blk.set5_2 {w : World} {g : Nat} {t : TypeId} {v0 v1 v2 v3 v4 : Value} (h : Blk w g #[v0, v1, v2, v3, v4] t) (u : Value) : Blk (w.setCell ⟨g, 2, none⟩ u) g #[v0, v1, u, v3, v4] t := blk_put h 2 u
theorem Blk.set5_3 {w : World} {g : Nat} {t : TypeId} {v0 v1 v2 v3 v4 : Value} (h : Blk w g #[v0, v1, v2, v3, v4] t) (u : Value) : Blk (w.setCell ⟨g, 3, none⟩ u) g #[v0, v1, v2, u, v4] t := blk_put h 3 u
theorem Blk.set5_4 {w : World} {g : Nat} {t : TypeId} {v0 v1 v2 v3 v4 : Value} (h : Blk w g #[v0, v1, v2, v3, v4] t) (u : Value) : Blk (w.setCell ⟨g, 4, none⟩ u) g #[v0, v1, v2, v3, u] t := blk_put h 4 u
theorem Blk.set6_0 {w : World} {g : Nat} {t : TypeId} {v0 v1 v2 v3 v4 v5 : Value} (h : Blk w g #[v0, v1, v2, v3, v4, v5] t) (u : Value) : Blk (w.setCell ⟨g, 0, none⟩ u) g #[u, v1, v2, v3, v4, v5] t := blk_put h 0 u
theorem Blk.set6_1 {w : World} {g : Nat} {t : TypeId} {v0 v1 v2 v3 v4 v5 : Value} (h : Blk w g #[v0, v1, v2, v3, v4, v5] t) (u : Value) : Blk (w.setCell ⟨g, 1, none⟩ u) g #[v0, u, v2, v3, v4, v5] t := blk_put h 1 u
theorem Blk.set6_2 {w : World} {g : Nat} {t : TypeId} {v0 v1 v2 v3 v4 v5 : Value} (h : Blk w g #[v0, v1, v2, v3, v4, v5] t) (u : Value) : Blk (w.setCell ⟨g, 2, none⟩ u) g #[v0, v1, u, v3, v4, v5] t := blk_put h 2 u
theorem Blk.set6_3 {w : World} {g : Nat} {t : TypeId} {v0 v1 v2 v3 v4 v5 : Value} (h : Blk w g #[v0, v1, v2, v3, v4, v5] t) (u : Value) : Blk (w.setCell ⟨g, 3, none⟩ u) g #[v0, v1, v2, u, v4, v5] t := blk_put h 3 u
theorem Blk.set6_4 {w : World} {g : Nat} {t : TypeId} {v0 v1 v2 v3 v4 v5 : Value} (h : Blk w g #[v0, v1, v2, v3, v4, v5] t) (u : Value) : Blk (w.setCell ⟨g, 4, none⟩ u) g #[v0, v1, v2, v3, u, v5] t := blk_put h 4 u
theorem Blk.set6_5 {w : World} {g : Nat} {t : TypeId} {v0 v1 v2 v3 v4 v5 : Value} (h : Blk w g #[v0, v1, v2, v3, v4, v5] t) (u : Value) : Blk (w.setCell ⟨g, 5, none⟩ u) g #[v0, v1, v2, v3, v4, u] t := blk_put h 5 u
theorem Blk.set7_0 {w : World} {g : Nat} {t : TypeId} {v0 v1 v2 v3 v4 v5 v6 : Value} (h : Blk w g #[v0, v1, v2, v3, v4, v5, v6] t) (u : Value) : Blk (w.setCell ⟨g, 0, none⟩ u) g #[u, v1, v2, v3, v4, v5, v6] t := blk_put h 0 u
theorem Blk.set7_1 {w : World} {g : Nat} {t : TypeId} {v0 v1 v2 v3 v4 v5 v6 : Value} (h : Blk w g #[v0, v1, v2, v3, v4, v5, v6] t) (u : Value) : Blk (w.setCell ⟨g, 1, none⟩ u) g #[v0, u, v2, v3, v4, v5, v6] t := blk_put h 1 u
theorem Blk.set7_2 {w : World} {g : Nat} {t : TypeId} {v0 v1 v2 v3 v4 v5 v6 : Value} (h : Blk w g #[v0, v1, v2, v3, v4, v5, v6] t) (u : Value) : Blk (w.setCell ⟨g, 2, none⟩ u) g #[v0, v1, u, v3, v4, v5, v6] t := blk_put h 2 u
theorem Blk.set7_3 {w : World} {g : Nat} {t : TypeId} {v0 v1 v2 v3 v4 v5 v6 : Value} (h : Blk w g #[v0, v1, v2, v3, v4, v5, v6] t) (u : Value) : Blk (w.setCell ⟨g, 3, none⟩ u) g #[v0, v1, v2, u, v4, v5, v6] t := blk_put h 3 u
theorem Blk.set7_4 {w : World} {g : Nat} {t : TypeId} {v0 v1 v2 v3 v4 v5 v6 : Value} (h : Blk w g #[v0, v1, v2, v3, v4, v5, v6] t) (u : Value) : Blk (w.setCell ⟨g, 4, none⟩ u) g #[v0, v1, v2, v3, u, v5, v6] t := blk_put h 4 u
theorem Blk.set7_5 {w : World} {g : Nat} {t : TypeId} {v0 v1 v2 v3 v4 v5 v6 : Value} (h : Blk w g #[v0, v1, v2, v3, v4, v5, v6] t) (u : Value) : Blk (w.setCell ⟨g, 5, none⟩ u) g #[v0, v1, v2, v3, v4, u, v6] t := blk_put h 5 u
theorem Blk.set7_6 {w : World} {g : Nat} {t : TypeId} {v0 v1 v2 v3 v4 v5 v6 : Value} (h : Blk w g #[v0, v1, v2, v3, v4, v5, v6] t) (u : Value) : Blk (w.setCell ⟨g, 6, none⟩ u) g #[v0, v1, v2, v3, v4, v5, u] t := blk_put h 6 u
end Go.Proofs.Ytimnhdmpfndeaaa.Kt
