/- Arguments opened: rows of ints. -/
import Derived.Test.YtimnhdmpfndeaaaGb
import Derived.Test.YtimnhdmpfndeaaaRow
import Derived.Deep.Slices
import Derived.Deep.Fields
import Derived.SizedLaws
namespace Go.Proofs.Ytimnhdmpfndeaaa.Oi
open Go.ChangeShapes Go.WideShapes Go.ChangeAt Go.RowKit Go.Joins Go.Deep Go.Proofs.Ytimnhdmpfndeaaa.Kt Go.Proofs.Ytimnhdmpfndeaaa.Sl
set_option linter.unusedVariables false
set_option maxRecDepth 100000
set_option linter.unusedSimpArgs false
section
variable {H : Type} {enc : TypeId × Value → H} {P : Program} {w : World} {base : Nat} {spare : Nat → Bool} {held : Bool} {α : Type} {en : α → List Value} {Q : α → Prop}
theorem pick_list {R : Nat → α → Prop} : ∀ n, (∀ i, i < n → ∃ o, R i o) → ∃ xs : List α, xs.length = n ∧ ∀ j x, xs[j]? = some x → R j x
  | 0, _ => ⟨[], rfl, fun j x h => by simp at h⟩
  | n + 1, h => by
    obtain ⟨xs, hl, hx⟩ := pick_list n (fun i hi => h i (by omega))
    obtain ⟨o, ho⟩ := h n (by omega)
    refine ⟨xs ++ [o], by simp [hl], fun j x hj => ?_⟩
    rcases Nat.lt_or_ge j xs.length with hlt | hge
    · rw [List.getElem?_append_left hlt] at hj
      exact hx j x hj
    · rw [List.getElem?_append_right hge] at hj
      have : j - xs.length = 0 := by
        rcases Nat.eq_zero_or_pos (j - xs.length) with h0 | h0
        · exact h0
        · rw [List.getElem?_eq_none (by simp; omega)] at hj; cases hj
      rw [this] at hj
      simp at hj
      subst hj
      have : j = n := by omega
      rw [this]
      exact ho
/-- a slice read as a list. -/
theorem slice_rd {t e : TypeId} {k fuel : Nat} {cs : List Value} {x : DataW H × List MemPlace} (ht : P.underlying t = some (.slice e)) (hk : P.cellsOf e = k) (hpos : 0 < k) (hlen : ∀ o, (en o).length = k)
    (hrd : ∀ n cs' y, DataW.trod enc P w base spare held n e cs' = some y → ∃ o, cs' = en o ∧ Q o) (h : DataW.trod enc P w base spare held fuel t cs = some x) :
    ∃ A n c xs, cs = [.slice A n c] ∧ xs.length = n ∧ Lies en k w A xs ∧ (∀ o ∈ xs, Q o) ∧ n ≤ 9223372036854775807 ∧ ((x.1 = .nil ∧ n = 0) ∨ ∃ elems sp, x.1 = .slice elems sp ∧ elems.length = n) := by
  rcases open_slice ht h with ⟨h1, h2⟩ | ⟨a, len, cap, m, n, D, Pl, hcs, hb, hl, hm, hmm, hx, hi⟩
  · exact ⟨none, 0, 0, [], h1, rfl, .inl rfl, by simp, by omega, .inl ⟨by rw [h2], rfl⟩⟩
  · have hlm : len ≤ m := by rw [hmm]; split <;> omega
    have hex : ∀ i, i < len → ∃ o, Q o ∧ ∀ j v, (en o)[j]? = some v → w.cell? ((a.add (i * k)).add j) = some v := by
      intro i hil
      obtain ⟨cs', hc, ht'⟩ := hi i (by omega)
      obtain ⟨o, rfl, hq⟩ := hrd _ _ _ ht'
      rw [hk] at hc
      obtain ⟨_, hcl, hat⟩ := World.cells?_some hc
      refine ⟨o, hq, fun j v hv => ?_⟩
      have hj : j < k := by
        rcases Nat.lt_or_ge j (en o).length with hlt | hge
        · rw [hlen] at hlt; exact hlt
        · rw [List.getElem?_eq_none hge] at hv; cases hv
      rw [hat j hj, hv]
    obtain ⟨xs, hxl, hxs⟩ := pick_list len hex
    refine ⟨some a, len, cap, xs, hcs, hxl, ?_, ?_, by simp only [maxLen] at hm; omega, .inr ⟨_, _, by rw [hx], by simp⟩⟩
    · rcases Nat.eq_zero_or_pos len with h0 | h0
      · left
        exact List.eq_nil_of_length_eq_zero (by omega)
      · right
        have hx0 : xs[0]? = some (xs[0]'(by omega)) := List.getElem?_eq_getElem (by omega)
        have hv0 : (en (xs[0]'(by omega)))[0]? = some ((en (xs[0]'(by omega)))[0]'(by rw [hlen]; exact hpos)) := List.getElem?_eq_getElem _
        have hc0 := (hxs 0 _ hx0).2 0 _ hv0
        rw [Nat.zero_mul] at hc0
        have e0 : (a.add 0).add 0 = a := rfl
        rw [e0] at hc0
        obtain ⟨b, off, sp⟩ := a
        have hs : sp = none := World.cell?_spot hc0
        subst hs
        refine ⟨b, off, rfl, World.block_lt_of_cell? w _ hc0, fun j x hj i v hv => ?_⟩
        have h1 := (hxs j x hj).2 i v hv
        rw [add_add, add_off] at h1
        rwa [Nat.add_assoc]
    · intro o ho
      obtain ⟨j, hj, rfl⟩ := List.mem_iff_getElem.1 ho
      exact (hxs j _ (List.getElem?_eq_getElem hj)).1
end
theorem i64_of {n : Int} (h : (Lit.int .i64 n).wf = true) : -9223372036854775808 ≤ n ∧ n ≤ 9223372036854775807 := by
  simp only [Lit.wf, Bool.and_eq_true, decide_eq_true_eq] at h
  exact h
section
variable {H : Type} {enc : TypeId × Value → H} {w : World} {base : Nat} {spare : Nat → Bool} {held : Bool}
abbrev encI (n : Int) : List Value := [.int .i64 n]
theorem cells_int : Try.prog.cellsOf 3 = 1 := by kernel_rfl
theorem ints_open {t0 : Nat} {v : Value} {d : DataW H} {p : List MemPlace} (hv : Value.okWide Try.prog w .any t0 58 v) (h : DataW.Trod enc Try.prog w base spare held 58 v d p) :
    ∃ A n c xs, v = .slice A n c ∧ xs.length = n ∧ Lies encI 1 w A xs ∧ n ≤ 9223372036854775807 := by
  obtain ⟨fuel, hf⟩ := h
  obtain ⟨a, len, cap, rfl⟩ := okWide_slice Try.underlying58 hv
  obtain ⟨A, n, c, xs, e, h1, h2, _, h4, _⟩ := slice_rd (en := encI) (Q := fun _ => True) Try.underlying58 cells_int (by decide) (fun _ => rfl) (fun n cs' y hy => by
    obtain ⟨o, e, _⟩ := DataW.trod_int Try.underlying3 hy
    exact ⟨o, e, trivial⟩) hf
  have e' : [Value.slice a len cap] = [Value.slice A n c] := e
  injection e' with e'
  exact ⟨A, n, c, xs, e', h1, h2, h4⟩
end
end Go.Proofs.Ytimnhdmpfndeaaa.Oi
