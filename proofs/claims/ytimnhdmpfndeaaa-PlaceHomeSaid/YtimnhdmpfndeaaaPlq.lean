/- Layer 8: a new record's steps leave the active record and the slots as they were, and write the record: in plain Lean. -/
import Derived.Test.YtimnhdmpfndeaaaPlp
namespace Go.Proofs.Ytimnhdmpfndeaaa.Pl
open Go.RowKit Go.Proofs.Ytimnhdmpfndeaaa.Kt Go.Proofs.Ytimnhdmpfndeaaa.Lw Go.Proofs.Ytimnhdmpfndeaaa.St Go.Proofs.Ytimnhdmpfndeaaa.Nm Go.Proofs.Ytimnhdmpfndeaaa.By Go.Proofs.Ytimnhdmpfndeaaa.En Go.Proofs.Ytimnhdmpfndeaaa.Jr Go.Proofs.Ytimnhdmpfndeaaa.Im Go.Proofs.Ytimnhdmpfndeaaa.Sl Go.Proofs.Ytimnhdmpfndeaaa.Gr Go.Proofs.Ytimnhdmpfndeaaa.Ops Go.Proofs.Ytimnhdmpfndeaaa.Ch Go.Proofs.Ytimnhdmpfndeaaa.Fl
set_option linter.unusedVariables false
set_option linter.unusedSimpArgs false
theorem got_blank : gotB (fullB 24) = false := by decide +kernel
attribute [local irreducible] gotB goodB Cr.crcB nQ nS nZ nM wholeB
theorem act_keeps {f : ByteArray} {p : PlV} {q s z m : Int} (hf : f.size = 768) (h : activeO f = some p) {j : Nat} (h1 : p.at_ ≤ (j : Int)) (h2 : (j : Int) < p.at_ + 24) : byt (allB f (appL f q s z m)) j = byt f j := by
  have hh := home_some h
  obtain ⟨i, hi, rfl, hg⟩ := act_ok h
  simp only [plOf] at h1 h2 hh
  have hm : homeN f = i / 4 := by rw [hh]; omega
  cases hk : freeO f (homeN f) with
  | some k =>
    have hkl := freeO_lt hk
    have hp : placeB f k = fullB 24 := free_pl 4 (4 * homeN f) k hk
    have hne : k ≠ i := by
      rintro rfl
      rw [hp, got_blank] at hg
      exact absurd hg (by simp)
    rw [app_some hf hk (by omega), if_neg (by omega)]
  | none => rw [app_none hf hk (by omega), if_neg (by omega), if_neg (by omega)]
theorem slots_keep {f : ByteArray} {q s z m : Int} (hf : f.size = 768) {j : Nat} (h1 : 192 ≤ j) (h2 : j < 768) : byt (allB f (appL f q s z m)) j = byt f j := by
  have hl := home_lt f
  cases hk : freeO f (homeN f) with
  | some k =>
    have hkl := freeO_lt hk
    rw [app_some hf hk h2, if_neg (by omega)]
  | none => rw [app_none hf hk h2, if_neg (by omega), if_neg (by omega)]
theorem spot_holds {f : ByteArray} {q s z m : Int} (hf : f.size = 768) {j : Nat} (h1 : spotN f ≤ (j : Int)) (h2 : (j : Int) < spotN f + 24) : byt (allB f (appL f q s z m)) j = byt (wholeB q s z m) (j - (spotN f).toNat) := by
  have hl := home_lt f
  cases hk : freeO f (homeN f) with
  | some k =>
    have hkl := freeO_lt hk
    simp only [spotN, hk] at h1 h2 ⊢
    rw [app_some hf hk (by omega), if_pos (by omega)]
    exact congrArg (byt _) (by omega)
  | none =>
    simp only [spotN, hk] at h1 h2 ⊢
    rw [app_none hf hk (by omega), if_pos (by omega)]
    exact congrArg (byt _) (by omega)
theorem ext_same {a b : ByteArray} {i j : Nat} (ha : j ≤ a.size) (hb : j ≤ b.size) (h : ∀ k, i ≤ k → k < j → byt a k = byt b k) : a.extract i j = b.extract i j := by
  have sa : (a.extract i j).size = j - i := by rw [ByteArray.size_extract]; omega
  have sb : (b.extract i j).size = j - i := by rw [ByteArray.size_extract]; omega
  refine byt_ext (by rw [sa, sb]) fun k hk => ?_
  rw [sa] at hk
  rw [Fl.byt_ex _ _ _ _ (by omega) ha, Fl.byt_ex _ _ _ _ (by omega) hb]
  exact h _ (by omega) (by omega)
end Go.Proofs.Ytimnhdmpfndeaaa.Pl
