/- Regions that draw their order and end in two stores: what they leave. -/
import Derived.Test.YtalgfekpcklijaaGreatGta
import Derived.RegionTactic
import Derived.BigRegion
import Derived.Lib.MinMax
import Derived.Deep.RegionHeld3
namespace Go.Proofs.YtalgfekpcklijaaGreat.Dv
open Go.RowKit Go.Proofs.YtalgfekpcklijaaGreat.Kt Go.Proofs.YtalgfekpcklijaaGreat.Lw Go.Proofs.YtalgfekpcklijaaGreat.St Go.Proofs.YtalgfekpcklijaaGreat.Nm Go.Proofs.YtalgfekpcklijaaGreat.Es Go.Proofs.YtalgfekpcklijaaGreat.By Go.Proofs.YtalgfekpcklijaaGreat.En Go.Proofs.YtalgfekpcklijaaGreat.Jr Go.Proofs.YtalgfekpcklijaaGreat.Im Go.Proofs.YtalgfekpcklijaaGreat.Sl Go.Proofs.YtalgfekpcklijaaGreat.Gr Go.Proofs.YtalgfekpcklijaaGreat.Ops Go.Proofs.YtalgfekpcklijaaGreat.Ch Go.Proofs.YtalgfekpcklijaaGreat.Fl Go.Proofs.YtalgfekpcklijaaGreat.Pl
set_option linter.unusedVariables false
set_option linter.unusedSimpArgs false
/-- the cells of a block behind a store elsewhere. -/
theorem far6 {W X : World} {b j : Nat} {v v0 v1 v2 v3 v4 v5 : Value} {g : Nat} (hX : X = W.setCell ⟨b, j, none⟩ v) (hp : g ≠ b) (h : W.cell? ⟨g, 0, none⟩ = some (v0) ∧ W.cell? ⟨g, 1, none⟩ = some (v1) ∧ W.cell? ⟨g, 2, none⟩ = some (v2) ∧ W.cell? ⟨g, 3, none⟩ = some (v3) ∧ W.cell? ⟨g, 4, none⟩ = some (v4) ∧ W.cell? ⟨g, 5, none⟩ = some (v5)) : X.cell? ⟨g, 0, none⟩ = some (v0) ∧ X.cell? ⟨g, 1, none⟩ = some (v1) ∧ X.cell? ⟨g, 2, none⟩ = some (v2) ∧ X.cell? ⟨g, 3, none⟩ = some (v3) ∧ X.cell? ⟨g, 4, none⟩ = some (v4) ∧ X.cell? ⟨g, 5, none⟩ = some (v5) := by
  subst hX
  have e : ∀ i, (W.setCell ⟨b, j, none⟩ v).cell? ⟨g, i, none⟩ = W.cell? ⟨g, i, none⟩ := fun i => World.cell?_of_block (a := ⟨g, i, none⟩) (Below.heap_setCell W ⟨b, j, none⟩ v g hp)
  simp only [e]
  exact h
theorem Own.drew {w : World} {base : Nat} {A : Option Addr} {xs : List OpV} (h : Own w base A xs) : Own w.drew base A xs := h
theorem body_gen {P : Program} {f : Func} {Q : Ending → World → Prop} {e : Exit} {a : Act} {w W : World} {g1 g2 b : Nat} {cs1 cs2 : Array Value} {t1 t2 : TypeId} {A : Option Addr} {xs : List OpV} (L1 : Blk W g1 cs1 t1) (L2 : Blk W g2 cs2 t2) (O : Own W b A xs) (B : Below w.heap.size w W)
    (h : ∀ W', Blk W' g1 cs1 t1 → Blk W' g2 cs2 t2 → Own W' b A xs → Below w.heap.size w W' → bodyPost P f Q e a W') : bodyPost P f Q e a W := h W L1 L2 O B
theorem min_step {P : Program} {Q : Exit → Act → World → Prop} {o : Oper} {ys : Nat → Option Bool} {a : Act} {w : World} {K : Act → World → Prop} (hw : Region.wanted o ys = true) (x y : Operand) (ats : Array TypeId) (ho : o.op = .call { callee := .builtin .min, args := #[x, y], argTypes := ats })
    (k k' : IntKind) (m n : Int) (hx : a.eval x = .int k m) (hy : a.eval y = .int k' n) (h : K (a.put o.dst (.int k (min m n))) w) : if Region.wanted o ys = true then o.wp P a w K Q else K (a.put o.dst undef) w := by
  rw [if_pos hw]
  unfold Oper.wp execOp
  simp only [ho, resolve, invoke, builtin, Sem.run_bind, Sem.run_pure, Result.andThen_ok, List.map_toArray, List.map_cons, List.map_nil, hx, hy, Lib.run_min_ints]
  exact h
theorem drew6 {W : World} {v0 v1 v2 v3 v4 v5 : Value} {g : Nat} (h : W.cell? ⟨g, 0, none⟩ = some (v0) ∧ W.cell? ⟨g, 1, none⟩ = some (v1) ∧ W.cell? ⟨g, 2, none⟩ = some (v2) ∧ W.cell? ⟨g, 3, none⟩ = some (v3) ∧ W.cell? ⟨g, 4, none⟩ = some (v4) ∧ W.cell? ⟨g, 5, none⟩ = some (v5)) : W.drew.cell? ⟨g, 0, none⟩ = some (v0) ∧ W.drew.cell? ⟨g, 1, none⟩ = some (v1) ∧ W.drew.cell? ⟨g, 2, none⟩ = some (v2) ∧ W.drew.cell? ⟨g, 3, none⟩ = some (v3) ∧ W.drew.cell? ⟨g, 4, none⟩ = some (v4) ∧ W.drew.cell? ⟨g, 5, none⟩ = some (v5) := h
end Go.Proofs.YtalgfekpcklijaaGreat.Dv
