/- Appends of one, two, three onto one's own row. -/
import Derived.Test.YtimnhdmpfndeaaaKit
import Derived.Maps.AppendAt
namespace Go.Proofs.Ytimnhdmpfndeaaa.Gr
open Go.RowKit Go.Proofs.Ytimnhdmpfndeaaa.Kt
set_option linter.unusedVariables false
set_option linter.unusedSimpArgs false
/-- an append of m onto one's own row. -/
theorem row_stepm {w wr w3 : World} {T : TypeId} {ao : Option Addr} {k cv m : Nat} {v' : Value} {xs ys : List Value} {o : Obj} (hm : 0 < m) (h : wr.ownsRow w.heap.size T 1 (.slice ao k cv) k xs) (h' : w3.ownsRow w.heap.size T 1 v' (k + m) (xs ++ ys))
    (hg : (wr.alloc o).grownBy w3 (Value.slice ao k cv).ownBlock) (HB : Below w.heap.size w wr) : (∃ (g : Nat) (cv' : Nat), v' = .slice (some ⟨g, 0, none⟩) (k + m) cv' ∧ k + m ≤ cv') ∧ Below w.heap.size w w3 := by
  refine ⟨?_, (HB.alloc HB.size o).grown hg (by have := HB.size; simp; omega) (fun q hq => (h.lt q hq).1)⟩
  rcases h'.2 with ⟨_, h0⟩ | ⟨g3, cap3, _, h0, _, _, hc, _⟩
  · omega
  · exact ⟨_, _, h0, hc⟩
/-- the same, of elements of sz cells. -/
theorem row_stepz {w wr w3 : World} {T : TypeId} {ao : Option Addr} {k cv m sz : Nat} {v' : Value} {xs ys : List Value} {o : Obj} (hm : 0 < m) (h : wr.ownsRow w.heap.size T sz (.slice ao k cv) k xs) (h' : w3.ownsRow w.heap.size T sz v' (k + m) (xs ++ ys))
    (hg : (wr.alloc o).grownBy w3 (Value.slice ao k cv).ownBlock) (HB : Below w.heap.size w wr) : (∃ (g : Nat) (cv' : Nat), v' = .slice (some ⟨g, 0, none⟩) (k + m) cv' ∧ k + m ≤ cv') ∧ Below w.heap.size w w3 := by
  refine ⟨?_, (HB.alloc HB.size o).grown hg (by have := HB.size; simp; omega) (fun q hq => (h.lt q hq).1)⟩
  rcases h'.2 with ⟨_, h0⟩ | ⟨g3, cap3, _, h0, _, _, hc, _⟩
  · omega
  · exact ⟨_, _, h0, hc⟩
theorem cells_new (w : World) (cs : Array Value) (t : TypeId) : ∀ j u, cs.toList[j]? = some u → (w.alloc (.cells cs t)).cell? ((⟨w.heap.size, 0, none⟩ : Addr).add j) = some u := by
  intro j u hj
  have hB := Blk.new w cs t
  rw [add_plain, hB.cell j]
  simpa using hj
theorem cells_new1 (w : World) (o : Obj) (cs : Array Value) (t : TypeId) : ∀ j u, cs.toList[j]? = some u → ((w.alloc o).alloc (.cells cs t)).cell? ((⟨w.heap.size + 1, 0, none⟩ : Addr).add j) = some u := by
  have h := cells_new (w.alloc o) cs t
  rwa [show (w.alloc o).heap.size = w.heap.size + 1 by simp] at h
theorem own_below {w w' : World} {base : Nat} {e : TypeId} {size n : Nat} {v : Value} {xs : List Value} (h : w.ownsRow base e size v n xs) (hb : Below w.heap.size w w') : w'.ownsRow base e size v n xs :=
  h.kept (row := none) ⟨hb.os, hb.tape, hb.output, hb.size, fun k hk _ => hb.block k hk⟩ (by cases v.ownBlock <;> simp)
end Go.Proofs.Ytimnhdmpfndeaaa.Gr
