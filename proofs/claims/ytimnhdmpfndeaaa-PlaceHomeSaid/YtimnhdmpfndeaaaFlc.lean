/- The flash in plain Lean: bytes behind steps; a text written where it is blank. -/
import Derived.Test.YtimnhdmpfndeaaaFlb
import Derived.Test.YtimnhdmpfndeaaaPlc
namespace Go.Proofs.Ytimnhdmpfndeaaa.Fl
open Go.RowKit Go.Proofs.Ytimnhdmpfndeaaa.Kt Go.Proofs.Ytimnhdmpfndeaaa.Lw Go.Proofs.Ytimnhdmpfndeaaa.St Go.Proofs.Ytimnhdmpfndeaaa.Nm Go.Proofs.Ytimnhdmpfndeaaa.By Go.Proofs.Ytimnhdmpfndeaaa.En Go.Proofs.Ytimnhdmpfndeaaa.Jr Go.Proofs.Ytimnhdmpfndeaaa.Ops Go.Proofs.Ytimnhdmpfndeaaa.Pl
set_option linter.unusedVariables false
set_option linter.unusedSimpArgs false
theorem byt_ext {a b : ByteArray} (hs : a.size = b.size) (h : ∀ j, j < a.size → byt a j = byt b j) : a = b := by
  have la : a.data.toList.length = a.size := by rw [Array.length_toList]; rfl
  have lb : b.data.toList.length = b.size := by rw [Array.length_toList]; rfl
  apply ext_data
  apply List.ext_getElem (by omega)
  intro j h1 h2
  have hj := h j (by omega)
  unfold byt at hj
  simp only [List.getD_eq_getElem?_getD, List.getElem?_eq_getElem h1, List.getElem?_eq_getElem h2, Option.getD_some] at hj
  exact UInt8.toNat_inj.1 (by omega)
theorem byt_app (a b : ByteArray) (j : Nat) : byt (a ++ b) j = if j < a.size then byt a j else byt b (j - a.size) := by
  by_cases h : j < a.size
  · rw [if_pos h, byt_left a b h]
  · rw [if_neg h]
    have := byt_right a b (j - a.size)
    rwa [show a.size + (j - a.size) = j by omega] at this
theorem byt_full {k j : Nat} (h : j < k) : byt (fullB k) j = 255 := by
  unfold byt fullB
  simp [List.getD_eq_getElem?_getD, h]
theorem byt_over {s : ByteArray} {j : Nat} (h : s.size ≤ j) : byt s j = 0 := by
  have l : s.data.toList.length = s.size := by rw [Array.length_toList]; rfl
  unfold byt
  rw [List.getD_eq_getElem?_getD, List.getElem?_eq_none (by omega)]
  rfl
/-- behind a word's tearing. -/
theorem byt_torn {f : ByteArray} {a : Nat} (t : ByteArray) (n : Nat) (h : a + 4 ≤ f.size) {j : Nat} (hj : j < f.size) :
    byt (tornB f a t n) j = if a ≤ j ∧ j < a + 4 then tearF (fun i => byt f (a + i)) (byt t) n (j - a) else byt f j := by
  have s1 : (f.extract 0 a).size = a := by rw [ByteArray.size_extract]; omega
  have s2 := tear_size f a t n
  unfold tornB
  rw [byt_app, ByteArray.size_append, s1, s2]
  by_cases h1 : j < a + 4
  · rw [if_pos h1, byt_app, s1]
    by_cases h2 : j < a
    · rw [if_pos h2, if_neg (by omega), byt_ex f 0 a j (by omega) (by omega)]
      congr 1
      omega
    · rw [if_neg h2, if_pos (by omega), byt_tear f a t n (by omega)]
  · rw [if_neg h1, if_neg (by omega), byt_ex f (a + 4) f.size (j - (a + 4)) (by omega) (Nat.le_refl _)]
    congr 1
    omega
theorem byt_worn {f : ByteArray} {s n : Nat} (h : s * 96 + n ≤ f.size) {j : Nat} (hj : j < f.size) : byt (wornB f s n) j = if s * 96 ≤ j ∧ j < s * 96 + n then 255 else byt f j := by
  have s1 : (f.extract 0 (s * 96)).size = s * 96 := by rw [ByteArray.size_extract]; omega
  have s2 := full_size n
  unfold wornB
  rw [byt_app, ByteArray.size_append, s1, s2]
  by_cases h1 : j < s * 96 + n
  · rw [if_pos h1, byt_app, s1]
    by_cases h2 : j < s * 96
    · rw [if_pos h2, if_neg (by omega), byt_ex f 0 (s * 96) j (by omega) (by omega)]
      congr 1
      omega
    · rw [if_neg h2, if_pos (by omega), byt_full (by omega)]
  · rw [if_neg h1, if_neg (by omega), byt_ex f (s * 96 + n) f.size (j - (s * 96 + n)) (by omega) (Nat.le_refl _)]
    congr 1
    omega
/-- all eight bits. -/
def clr8 (x y : Int) : Int := clrB (clrB (clrB (clrB (clrB (clrB (clrB (clrB x y 0) y 1) y 2) y 3) y 4) y 5) y 6) y 7
theorem tear_all (b w : Nat → Int) {j : Nat} (h : j < 4) : tearF b w 32 j = clr8 (b j) (w j) := by
  rcases j with _ | _ | _ | _ | j
  · kernel_rfl
  · kernel_rfl
  · kernel_rfl
  · kernel_rfl
  · omega
theorem clr_blank_nat : ∀ y : Fin 256, clr8 255 (y.val : Int) = (y.val : Int) := by decide +kernel
theorem clr_blank {y : Int} (h0 : 0 ≤ y) (h1 : y < 256) : clr8 255 y = y := by
  obtain ⟨n, rfl⟩ := Int.eq_ofNat_of_zero_le h0
  exact clr_blank_nat ⟨n, by omega⟩
theorem byt_prog {f : ByteArray} {a : Nat} {t : ByteArray} (h : a + 4 ≤ f.size) (hb : ∀ j, a ≤ j → j < a + 4 → byt f j = 255) {j : Nat} (hj : j < f.size) :
    byt (tornB f a t 32) j = if a ≤ j ∧ j < a + 4 then byt t (j - a) else byt f j := by
  rw [byt_torn t 32 h hj]
  by_cases h1 : a ≤ j ∧ j < a + 4
  · rw [if_pos h1, if_pos h1, tear_all _ _ (by omega)]
    have hf : byt f (a + (j - a)) = 255 := hb _ (by omega) (by omega)
    have ht := byt_bd t (j - a)
    rw [hf]
    exact clr_blank ht.1 ht.2
  · rw [if_neg h1, if_neg h1]
theorem do_word {f : ByteArray} {a : Nat} {t : ByteArray} : doB f (false, (a : Int), t) = tornB f a t 32 := by simp [doB, cutB]
theorem do_erase {f : ByteArray} {s : Nat} {t : ByteArray} : doB f (true, (s : Int) * 96, t) = wornB f s 96 := by
  have : ((s : Int) * 96 / 96).toNat = s := by omega
  simp [doB, cutB, this]
/-- steps done, one behind the other. -/
def allB (f : ByteArray) (os : List OpV) : ByteArray := os.foldl doB f
theorem all_snoc (f : ByteArray) (os : List OpV) (o : OpV) : allB f (os ++ [o]) = doB (allB f os) o := by simp only [allB, List.foldl_append, List.foldl_cons, List.foldl_nil]
theorem all_app (f : ByteArray) (os ps : List OpV) : allB f (os ++ ps) = allB (allB f os) ps := by simp only [allB, List.foldl_append]
/-- a text written where it is blank. -/
theorem write_size {f : ByteArray} {a : Nat} {t : ByteArray} : ∀ k, a + 4 * k ≤ f.size → (allB f (wordsN (a : Int) t k)).size = f.size
  | 0, _ => rfl
  | k + 1, h => by
    have ih := write_size (f := f) (a := a) (t := t) k (by omega)
    rw [wordsN_succ, all_snoc]
    have e : wordV (a : Int) t k = (false, ((a + 4 * k : Nat) : Int), wordB t k) := by simp [wordV]
    rw [e, do_word, torn_size _ _ (by omega), ih]
theorem byt_write {f : ByteArray} {a : Nat} {t : ByteArray} : ∀ k, k ≤ (t.size + 3) / 4 → a + 4 * k ≤ f.size → (∀ j, a ≤ j → j < a + 4 * k → byt f j = 255) → ∀ j, j < f.size →
    byt (allB f (wordsN (a : Int) t k)) j = if a ≤ j ∧ j < a + 4 * k then byt (padB t) (j - a) else byt f j
  | 0, _, _, _, j, _ => by
    rw [if_neg (by omega)]
    rfl
  | k + 1, hk, h, hb, j, hj => by
    have hz := write_size (f := f) (a := a) (t := t) k (by omega)
    have ih := byt_write (f := f) (a := a) (t := t) k (by omega) (by omega) (fun j h1 h2 => hb j h1 (by omega))
    have e : wordV (a : Int) t k = (false, ((a + 4 * k : Nat) : Int), wordB t k) := by simp [wordV]
    rw [wordsN_succ, all_snoc, e, do_word, byt_prog (by omega) (fun i h1 h2 => ?_) (by omega)]
    · by_cases h1 : a + 4 * k ≤ j ∧ j < a + 4 * k + 4
      · rw [if_pos h1, if_pos (by omega), ← pad_word t k (by omega), byt_ex _ _ _ _ (by omega) (by rw [pad_size]; omega)]
        congr 1
        omega
      · rw [if_neg h1, ih j hj]
        by_cases h2 : a ≤ j ∧ j < a + 4 * k
        · rw [if_pos h2, if_pos (by omega)]
        · rw [if_neg h2, if_neg (by omega)]
    · rw [ih i (by omega), if_neg (by omega)]
      exact hb i (by omega) (by omega)
end Go.Proofs.Ytimnhdmpfndeaaa.Fl
