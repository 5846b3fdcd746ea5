/- Layer 8: what the steps of a new record leave, byte for byte: in plain Lean. -/
import Derived.Test.YtimnhdmpfndeaaaPll
namespace Go.Proofs.Ytimnhdmpfndeaaa.Pl
open Go.RowKit Go.Proofs.Ytimnhdmpfndeaaa.Kt Go.Proofs.Ytimnhdmpfndeaaa.Lw Go.Proofs.Ytimnhdmpfndeaaa.St Go.Proofs.Ytimnhdmpfndeaaa.Nm Go.Proofs.Ytimnhdmpfndeaaa.By Go.Proofs.Ytimnhdmpfndeaaa.En Go.Proofs.Ytimnhdmpfndeaaa.Jr Go.Proofs.Ytimnhdmpfndeaaa.Im Go.Proofs.Ytimnhdmpfndeaaa.Sl Go.Proofs.Ytimnhdmpfndeaaa.Gr Go.Proofs.Ytimnhdmpfndeaaa.Ops Go.Proofs.Ytimnhdmpfndeaaa.Ch Go.Proofs.Ytimnhdmpfndeaaa.Fl
set_option linter.unusedVariables false
set_option linter.unusedSimpArgs false
attribute [local irreducible] gotB goodB Cr.crcB nQ nS nZ nM wholeB
theorem free_pl {f : ByteArray} : ∀ (n k j : Nat), freeFrom f k n = some j → placeB f j = fullB 24
  | 0, k, j, h => by simp [freeFrom] at h
  | n + 1, k, j, h => by
    unfold freeFrom at h
    by_cases hp : placeB f k = fullB 24
    · rw [if_pos hp] at h
      injection h with h
      rw [← h]
      exact hp
    · rw [if_neg hp] at h
      exact free_pl n (k + 1) j h
theorem free_byt {f : ByteArray} {s k : Nat} (hf : f.size = 768) (hs : s < 2) (h : freeO f s = some k) {j : Nat} (h1 : 24 * k ≤ j) (h2 : j < 24 * k + 24) : byt f j = 255 := by
  have hl := freeO_lt h
  have hp : placeB f k = fullB 24 := free_pl 4 (4 * s) k h
  have e : byt (placeB f k) (j - 24 * k) = byt f j := by
    unfold placeB
    rw [Fl.byt_ex _ _ _ _ (by omega) (by omega)]
    congr 1
    omega
  rw [← e, hp, byt_full (by omega)]
theorem pad24 {t : ByteArray} (h : t.size = 24) : padB t = t := by
  unfold padB
  rw [h]
  apply byt_ext
  · rw [ByteArray.size_append, full_size]
    omega
  · intro j hj
    rw [ByteArray.size_append, full_size] at hj
    rw [byt_left _ _ (by omega)]
theorem write24 {f t : ByteArray} {a : Nat} (ht : t.size = 24) (ha : a + 24 ≤ f.size) (hb : ∀ j, a ≤ j → j < a + 24 → byt f j = 255) {j : Nat} (hj : j < f.size) :
    byt (allB f (wordsL (a : Int) t)) j = if a ≤ j ∧ j < a + 24 then byt t (j - a) else byt f j := by
  have e : wordsL (a : Int) t = wordsN (a : Int) t 6 := by unfold wordsL; rw [ht]
  rw [e, byt_write 6 (by omega) (by omega) (fun j h1 h2 => hb j h1 (by omega)) j hj, pad24 ht]
theorem app_some {f : ByteArray} {q s z m : Int} {k : Nat} (hf : f.size = 768) (h : freeO f (homeN f) = some k) {j : Nat} (hj : j < 768) :
    byt (allB f (appL f q s z m)) j = if 24 * k ≤ j ∧ j < 24 * k + 24 then byt (wholeB q s z m) (j - 24 * k) else byt f j := by
  have hl := home_lt f
  have hk := freeO_lt h
  have e : appL f q s z m = wordsL ((24 * k : Nat) : Int) (wholeB q s z m) := by simp only [appL, headL, spotN, h, List.nil_append]; rfl
  rw [e]
  exact write24 (whole_size q s z m) (by omega) (fun j h1 h2 => free_byt hf hl h h1 h2) (by omega)
theorem app_none {f : ByteArray} {q s z m : Int} (hf : f.size = 768) (h : freeO f (homeN f) = none) {j : Nat} (hj : j < 768) :
    byt (allB f (appL f q s z m)) j = if (1 - homeN f) * 96 ≤ j ∧ j < (1 - homeN f) * 96 + 24 then byt (wholeB q s z m) (j - (1 - homeN f) * 96) else if (1 - homeN f) * 96 ≤ j ∧ j < (1 - homeN f) * 96 + 96 then 255 else byt f j := by
  have hl := home_lt f
  obtain ⟨u, hu⟩ : ∃ u : Nat, 1 - homeN f = u := ⟨_, rfl⟩
  have hui : (1 - (homeN f : Int)) = (u : Int) := by omega
  have hu1 : u ≤ 1 := by omega
  have e : appL f q s z m = [(true, (u : Int) * 96, (⟨#[]⟩ : ByteArray))] ++ wordsL ((u * 96 : Nat) : Int) (wholeB q s z m) := by
    simp only [appL, headL, spotN, h, hui]
    rfl
  rw [e, all_app]
  have e2 : allB f [(true, (u : Int) * 96, (⟨#[]⟩ : ByteArray))] = wornB f u 96 := do_erase
  have hz : (wornB f u 96).size = 768 := (worn_size (by omega)).trans hf
  rw [e2, hu]
  have hw : ∀ i, i < 768 → byt (wornB f u 96) i = if u * 96 ≤ i ∧ i < u * 96 + 96 then 255 else byt f i := fun i hi => byt_worn (by omega) (by omega)
  rw [write24 (whole_size q s z m) (by omega) (fun i h1 h2 => by rw [hw i (by omega), if_pos (by omega)]) (by omega), hw j hj]
end Go.Proofs.Ytimnhdmpfndeaaa.Pl
