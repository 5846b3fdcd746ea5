/- A heap of rows, in plain Lean: sifting down, the first of it. -/
import Derived.Test.YtimnhdmpfndeaaaKit
namespace Go.Proofs.Ytimnhdmpfndeaaa.Hp
set_option linter.unusedVariables false
set_option linter.unusedSimpArgs false
section
variable {α : Type}
/-- two places change their values. -/
def swF (f : Nat → α) (i j : Nat) : Nat → α := fun k => if k = i then f j else if k = j then f i else f k
/-- from i0 on no child stands ahead of its parent. -/
def HeapF (le : α → α → Prop) (f : Nat → α) (i0 n : Nat) : Prop := ∀ p c, i0 ≤ p → c < n → (c = 2 * p + 1 ∨ c = 2 * p + 2) → le (f p) (f c)
/-- the same but at i, whose children stand not ahead of its parent. -/
def HeapX (le : α → α → Prop) (f : Nat → α) (i i0 n : Nat) : Prop :=
  (∀ p c, i0 ≤ p → p ≠ i → c < n → (c = 2 * p + 1 ∨ c = 2 * p + 2) → le (f p) (f c)) ∧
  (∀ q c, i0 ≤ q → (i = 2 * q + 1 ∨ i = 2 * q + 2) → c < n → (c = 2 * i + 1 ∨ c = 2 * i + 2) → le (f q) (f c))
/-- the same values at the first n places, and those behind them as they were. -/
def SameF (f g : Nat → α) (n : Nat) : Prop := (∀ k, k < n → ∃ m, m < n ∧ g k = f m) ∧ (∀ k, k < n → ∃ m, m < n ∧ f k = g m) ∧ ∀ k, n ≤ k → g k = f k
theorem SameF.refl (f : Nat → α) (n : Nat) : SameF f f n := ⟨fun k h => ⟨k, h, rfl⟩, fun k h => ⟨k, h, rfl⟩, fun _ _ => rfl⟩
theorem SameF.trans {f g h : Nat → α} {n : Nat} (a : SameF f g n) (b : SameF g h n) : SameF f h n := by
  refine ⟨fun k hk => ?_, fun k hk => ?_, fun k hk => (b.2.2 k hk).trans (a.2.2 k hk)⟩
  · obtain ⟨m, hm, e⟩ := b.1 k hk
    obtain ⟨m', hm', e'⟩ := a.1 m hm
    exact ⟨m', hm', e.trans e'⟩
  · obtain ⟨m, hm, e⟩ := a.2.1 k hk
    obtain ⟨m', hm', e'⟩ := b.2.1 m hm
    exact ⟨m', hm', e.trans e'⟩
theorem SameF.up {f g : Nat → α} {n m : Nat} (a : SameF f g n) (h : n ≤ m) : SameF f g m := by
  refine ⟨fun k hk => ?_, fun k hk => ?_, fun k hk => a.2.2 k (by omega)⟩
  · by_cases hn : k < n
    · obtain ⟨m', hm, e⟩ := a.1 k hn
      exact ⟨m', by omega, e⟩
    · exact ⟨k, hk, a.2.2 k (by omega)⟩
  · by_cases hn : k < n
    · obtain ⟨m', hm, e⟩ := a.2.1 k hn
      exact ⟨m', by omega, e⟩
    · exact ⟨k, hk, (a.2.2 k (by omega)).symm⟩
theorem swF_same (f : Nat → α) {i j n : Nat} (hi : i < n) (hj : j < n) : SameF f (swF f i j) n := by
  refine ⟨fun k hk => ?_, fun k hk => ?_, fun k hk => ?_⟩
  · unfold swF
    by_cases h1 : k = i
    · exact ⟨j, hj, by simp [h1]⟩
    · by_cases h2 : k = j
      · exact ⟨i, hi, by rw [if_neg h1, if_pos h2]⟩
      · exact ⟨k, hk, by simp [h1, h2]⟩
  · unfold swF
    by_cases h1 : k = i
    · by_cases h : j = i
      · exact ⟨i, hi, by simp [h1, h]⟩
      · exact ⟨j, hj, by simp [h1, h]⟩
    · by_cases h2 : k = j
      · exact ⟨i, hi, by subst h2; simp⟩
      · exact ⟨k, hk, by simp [h1, h2]⟩
  · unfold swF
    rw [if_neg (by omega), if_neg (by omega)]
variable {le : α → α → Prop} {f : Nat → α} {i i0 n : Nat}
theorem HeapX.first (h : HeapF le f (i0 + 1) n) : HeapX le f i0 i0 n :=
  ⟨fun p c h0 h1 h2 h3 => h p c (by omega) h2 h3, fun q c h0 h1 h2 h3 => by omega⟩
theorem HeapX.done (h : HeapX le f i i0 n) (hc : ∀ c, c < n → (c = 2 * i + 1 ∨ c = 2 * i + 2) → le (f i) (f c)) : HeapF le f i0 n := by
  intro p c h0 h1 h2
  by_cases e : p = i
  · subst e
    exact hc c h1 h2
  · exact h.1 p c h0 e h1 h2
theorem HeapX.step (h : HeapX le f i i0 n) (hi : i0 ≤ i) {j : Nat} (hj : j = 2 * i + 1 ∨ j = 2 * i + 2) (hn : j < n) (hc : ∀ c, c < n → (c = 2 * i + 1 ∨ c = 2 * i + 2) → le (f j) (f c)) (hl : le (f j) (f i)) :
    HeapX le (swF f i j) j i0 n := by
  constructor
  · intro p c h0 h1 h2 h3
    by_cases e : p = i
    · subst e
      unfold swF
      rw [if_pos rfl]
      by_cases e2 : c = j
      · rw [if_neg (by omega), if_pos e2]
        exact hl
      · rw [if_neg (by omega), if_neg e2]
        exact hc c h2 h3
    · unfold swF
      rw [if_neg e, if_neg h1]
      by_cases e2 : c = i
      · subst e2
        rw [if_pos rfl]
        exact h.2 p j h0 h3 hn hj
      · by_cases e3 : c = j
        · omega
        · rw [if_neg e2, if_neg e3]
          exact h.1 p c h0 e h2 h3
  · intro q c h0 h1 h2 h3
    obtain rfl : q = i := by omega
    unfold swF
    rw [if_pos rfl, if_neg (by omega), if_neg (by omega)]
    exact h.1 j c (by omega) (by omega) h2 h3
theorem HeapF.head (h : HeapF le f 0 n) (hr : ∀ a, le a a) (ht : ∀ a b c, le a b → le b c → le a c) : ∀ k, k < n → le (f 0) (f k) := by
  intro k
  induction k using Nat.strongRecOn with
  | _ k ih =>
    intro hk
    by_cases e : k = 0
    · subst e
      exact hr _
    · have hp : (k - 1) / 2 < k := by omega
      exact ht _ _ _ (ih _ hp (by omega)) (h ((k - 1) / 2) k (Nat.zero_le _) hk (by omega))
theorem HeapF.none (h : n ≤ 2 * i0 + 1) : HeapF le f i0 n := fun p c h0 h1 h2 => by omega
theorem HeapF.less (h : HeapF le f i0 n) {m : Nat} (hm : m ≤ n) : HeapF le f i0 m := fun p c h0 h1 h2 => h p c h0 (by omega) h2
/-- the last one put first: what is left is a heap but at its head. -/
theorem HeapF.pop {n : Nat} (h : HeapF le f 0 (n + 1)) : HeapX le (swF f 0 n) 0 0 n := by
  refine ⟨fun p c h0 h1 h2 h3 => ?_, fun q c h0 h1 h2 h3 => by omega⟩
  unfold swF
  rw [if_neg h1, if_neg (by omega), if_neg (by omega), if_neg (by omega)]
  exact h p c h0 (by omega) h3
end
end Go.Proofs.Ytimnhdmpfndeaaa.Hp
