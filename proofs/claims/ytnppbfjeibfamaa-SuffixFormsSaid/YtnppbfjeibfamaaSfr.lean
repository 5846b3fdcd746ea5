/- Layer 11: files that may not be: a turned byte, in plain Lean. -/
import Derived.Test.YtnppbfjeibfamaaSfm
import Derived.Test.YtnppbfjeibfamaaByt
namespace Go.Proofs.Ytnppbfjeibfamaa.Sf
open Go.RowKit Go.Proofs.Ytnppbfjeibfamaa.Kt Go.Proofs.Ytnppbfjeibfamaa.Lw Go.Proofs.Ytnppbfjeibfamaa.St Go.Proofs.Ytnppbfjeibfamaa.Nm Go.Proofs.Ytnppbfjeibfamaa.Ic Go.Proofs.Ytnppbfjeibfamaa.Cr Go.Proofs.Ytnppbfjeibfamaa.By
set_option linter.unusedVariables false
set_option linter.unusedSimpArgs false
theorem byt_set_ne (s : ByteArray) (p j : Nat) (x : Int) (h : j ≠ p) : byt (setS s p x) j = byt s j := by
  unfold byt setS
  simp only [List.getD_eq_getElem?_getD]
  rw [List.getElem?_set_ne (by omega)]
theorem byt_set_eq (s : ByteArray) (p : Nat) (x : Int) (hp : p < s.size) (h0 : 0 ≤ x) (h1 : x < 256) : byt (setS s p x) p = x := by
  have hl : p < s.data.toList.length := by simpa using hp
  unfold byt setS
  simp only [List.getD_eq_getElem?_getD, List.getElem?_set_self hl]
  exact byte_back x h0 h1
theorem byt_all {s t : ByteArray} (hs : s.size = t.size) (h : ∀ j, j < s.size → byt s j = byt t j) : s = t := by
  apply ext_data
  have l1 := len_data s
  have l2 := len_data t
  apply List.ext_getElem (by omega)
  intro j h1 h2
  have := h j (by omega)
  unfold byt at this
  rw [List.getD_eq_getElem?_getD, List.getD_eq_getElem?_getD, List.getElem?_eq_getElem h1, List.getElem?_eq_getElem h2] at this
  simp only [Option.getD_some] at this
  exact UInt8.toNat_inj.1 (by omega)
theorem byt_ext (s : ByteArray) (a b j : Nat) (h : a + j < b) (hb : b ≤ s.size) : byt (s.extract a b) j = byt s (a + j) := by
  unfold byt
  simp only [ByteArray.data_extract, Array.toList_extract, List.extract, List.getD_eq_getElem?_getD]
  rw [List.getElem?_take_of_lt (by omega), List.getElem?_drop]
theorem ext_same {s t : ByteArray} (hs : s.size = t.size) (a b : Nat) (hb : b ≤ s.size) (h : ∀ j, a ≤ j → j < b → byt s j = byt t j) : s.extract a b = t.extract a b := by
  apply byt_all
  · simp; omega
  · intro j hj
    have hj' : a + j < b := by simp at hj; omega
    rw [byt_ext s a b j hj' hb, byt_ext t a b j hj' (by omega)]
    exact h _ (by omega) hj'
theorem form_turn {s t : ByteArray} (hs : s.size = t.size) (h17 : 16 ≤ s.size) (hm : parM s = true) (p : Nat) (p0 : s.size - 16 + 6 ≤ p) (p1 : p < s.size - 16 + 12) (hp : byt s p ≠ byt t p) : parV3 t = .tuple #[.string ⟨#[]⟩, .agg #[.int .i64 0, .int .i64 0, .int .i64 0], .int .i64 1100] := by
  have hn : parM t = false := by
    cases ht : parM t
    · rfl
    · exfalso
      apply hp
      have e1 := eq_of_beq hm
      have e2 := eq_of_beq ht
      have e3 : s.extract (s.size - 16 + 6) (s.size - 16 + 12) = t.extract (s.size - 16 + 6) (s.size - 16 + 12) := by
        rw [← hs] at e2
        apply ext_data
        rw [← Lib.toList_data, ← Lib.toList_data, e1, e2]
      have a := byt_ext s (s.size - 16 + 6) (s.size - 16 + 12) (p - (s.size - 16 + 6)) (by omega) (by omega)
      have b := byt_ext t (s.size - 16 + 6) (s.size - 16 + 12) (p - (s.size - 16 + 6)) (by omega) (by omega)
      rw [show s.size - 16 + 6 + (p - (s.size - 16 + 6)) = p by omega] at a b
      rw [← a, ← b, e3]
  exact parV3_form (by simp [parF, hn])
theorem sum_turn {s t : ByteArray} (hs : s.size = t.size) (h17 : 16 ≤ s.size) (hf : parF s = true) (hS : parS s = true) (p : Nat) (p1 : p < s.size - 16 + 6) (hp : byt s p ≠ byt t p) (he : ∀ j, j ≠ p → byt s j = byt t j) : parV3 t = .tuple #[.string ⟨#[]⟩, .agg #[.int .i64 0, .int .i64 0, .int .i64 0], .int .i64 1101] := by
  have e1 : s.extract (s.size - 16 + 6) (s.size - 16 + 12) = t.extract (s.size - 16 + 6) (s.size - 16 + 12) := ext_same hs _ _ (by omega) fun j h0 h1 => he j (by omega)
  have e2 : s.extract (s.size - 16 + 12) s.size = t.extract (s.size - 16 + 12) s.size := ext_same hs _ _ (by omega) fun j h0 h1 => he j (by omega)
  have e3 : crcB (s.extract 0 (s.size - 16 + 12)) ≠ crcB (t.extract 0 (s.size - 16 + 12)) := by
    have b := fun (j : Nat) (hj : j < s.size - 16 + 12) => byt_ext s 0 (s.size - 16 + 12) j (by omega) (by omega)
    have c := fun (j : Nat) (hj : j < s.size - 16 + 12) => byt_ext t 0 (s.size - 16 + 12) j (by omega) (by omega)
    have z : (s.extract 0 (s.size - 16 + 12)).size = s.size - 16 + 12 := by simp; omega
    have z' : (t.extract 0 (s.size - 16 + 12)).size = s.size - 16 + 12 := by simp; omega
    refine crc_one (p := p) (by rw [z, z']) (by rw [z]; omega) ?_ ?_
    · rw [b p (by omega), c p (by omega), Nat.zero_add]
      exact hp
    · intro j hj
      by_cases hl : j < s.size - 16 + 12
      · rw [b j hl, c j hl, Nat.zero_add]
        exact he j hj
      · unfold byt
        rw [List.getD_eq_getElem?_getD, List.getD_eq_getElem?_getD, List.getElem?_eq_none (by rw [len_data, z]; omega), List.getElem?_eq_none (by rw [len_data, z']; omega)]
  refine parV3_sum ?_ ?_
  · have hm : parM s = true := by simp [parF] at hf; exact hf.2
    have hr : rngB ((s.size : Int) - 16) 1 288 = true := by simp [parF] at hf; exact hf.1
    have : parM t = true := by rw [parM, ← hs, ← e1]; exact hm
    simp [parF, this, ← hs, hr]
  · rw [parS, ← hs, ← e2, beq_eq_false_iff_ne]
    have := eq_of_beq hS
    rw [this]
    exact e3
theorem big_form {t : ByteArray} (h : 304 < t.size) : parV3 t = .tuple #[.string ⟨#[]⟩, .agg #[.int .i64 0, .int .i64 0, .int .i64 0], .int .i64 1100] := by
  refine parV3_form ?_
  have : rngB ((t.size : Int) - 16) 1 288 = false := by
    rw [← Bool.not_eq_true]; simp [rngB]; omega
  simp [parF, this]
theorem small_form {t : ByteArray} (h : t.size ≤ 16) : parV3 t = .tuple #[.string ⟨#[]⟩, .agg #[.int .i64 0, .int .i64 0, .int .i64 0], .int .i64 1100] := by
  refine parV3_form ?_
  have : rngB ((t.size : Int) - 16) 1 288 = false := by
    rw [← Bool.not_eq_true]; simp [rngB]; omega
  simp [parF, this]
end Go.Proofs.Ytnppbfjeibfamaa.Sf
