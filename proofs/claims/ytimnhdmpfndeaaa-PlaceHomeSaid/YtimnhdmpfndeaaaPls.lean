/- Layer 8: which steps of a new record erase: in plain Lean. -/
import Derived.Test.YtimnhdmpfndeaaaPlr
namespace Go.Proofs.Ytimnhdmpfndeaaa.Pl
open Go.RowKit Go.Proofs.Ytimnhdmpfndeaaa.Kt Go.Proofs.Ytimnhdmpfndeaaa.Lw Go.Proofs.Ytimnhdmpfndeaaa.St Go.Proofs.Ytimnhdmpfndeaaa.Nm Go.Proofs.Ytimnhdmpfndeaaa.By Go.Proofs.Ytimnhdmpfndeaaa.En Go.Proofs.Ytimnhdmpfndeaaa.Jr Go.Proofs.Ytimnhdmpfndeaaa.Im Go.Proofs.Ytimnhdmpfndeaaa.Sl Go.Proofs.Ytimnhdmpfndeaaa.Gr Go.Proofs.Ytimnhdmpfndeaaa.Ops Go.Proofs.Ytimnhdmpfndeaaa.Ch Go.Proofs.Ytimnhdmpfndeaaa.Fl
set_option linter.unusedVariables false
set_option linter.unusedSimpArgs false
attribute [local irreducible] gotB goodB Cr.crcB nQ nS nZ nM placeB wholeB
theorem words_no {a : Int} {t : ByteArray} {o : OpV} (h : o ∈ wordsL a t) : o.1 = false := by
  simp only [wordsL, wordsN, List.mem_map] at h
  obtain ⟨i, _, rfl⟩ := h
  rfl
/-- the half that is not the active one's. -/
theorem app_steps (f : ByteArray) (q s z m : Int) {i : Nat} {o : OpV} (h : (appL f q s z m)[i]? = some o) :
    (o.1 = false ∧ ((appL f q s z m).length = 6 ∨ (appL f q s z m).length = 7 ∧ 0 < i)) ∨ (o.1 = true ∧ o.2.1 = (1 - (homeN f : Int)) * 96 ∧ (appL f q s z m).length = 7 ∧ i = 0) := by
  have hw := words24_len (a := spotN f) (whole_size q s z m)
  cases hk : freeO f (homeN f) with
  | some k =>
    have e : headL f = [] := by simp only [headL, hk]
    unfold appL at h ⊢
    rw [e, List.nil_append] at h ⊢
    exact .inl ⟨words_no (List.mem_of_getElem? h), .inl hw⟩
  | none =>
    have e : headL f = [(true, (1 - (homeN f : Int)) * 96, ⟨#[]⟩)] := by simp only [headL, hk]
    unfold appL at h ⊢
    rw [e] at h ⊢
    have hl : ([(true, (1 - (homeN f : Int)) * 96, (⟨#[]⟩ : ByteArray))] ++ wordsL (spotN f) (wholeB q s z m)).length = 7 := by rw [List.length_append, hw]; rfl
    rw [hl]
    cases i with
    | zero =>
      simp only [List.cons_append, List.nil_append, List.getElem?_cons_zero, Option.some.injEq] at h
      subst h
      exact .inr ⟨rfl, rfl, rfl, rfl⟩
    | succ i =>
      simp only [List.cons_append, List.nil_append, List.getElem?_cons_succ] at h
      exact .inl ⟨words_no (List.mem_of_getElem? h), .inr ⟨rfl, by omega⟩⟩
/-- the sixth step from behind begins the record. -/
theorem app_begin (f : ByteArray) (q s z m : Int) : ∃ o, (appL f q s z m)[(appL f q s z m).length - 6]? = some o ∧ o.1 = false ∧ o.2.1 = spotN f := by
  have hw := words24_len (a := spotN f) (whole_size q s z m)
  have hl : (appL f q s z m).length = (headL f).length + 6 := by unfold appL; rw [List.length_append, hw]
  have h0 : (wordsL (spotN f) (wholeB q s z m))[0]? = some (wordV (spotN f) (wholeB q s z m) 0) := by
    unfold wordsL
    rw [whole_size]
    rfl
  refine ⟨wordV (spotN f) (wholeB q s z m) 0, ?_, rfl, (by show spotN f + 4 * ((0 : Nat) : Int) = spotN f; omega)⟩
  rw [hl]
  unfold appL
  rw [List.getElem?_append_right (by omega)]
  rw [show (headL f).length + 6 - 6 - (headL f).length = 0 by omega]
  exact h0
end Go.Proofs.Ytimnhdmpfndeaaa.Pl
