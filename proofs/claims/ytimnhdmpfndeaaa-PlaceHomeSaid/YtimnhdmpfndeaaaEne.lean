/- Layer 4: a text's record: what the program's and the references' functions answer. -/
import Derived.Test.YtimnhdmpfndeaaaEnc
namespace Go.Proofs.Ytimnhdmpfndeaaa.En
open Go.RowKit Go.Proofs.Ytimnhdmpfndeaaa.Kt Go.Proofs.Ytimnhdmpfndeaaa.Lw Go.Proofs.Ytimnhdmpfndeaaa.St Go.Proofs.Ytimnhdmpfndeaaa.Nm Go.Proofs.Ytimnhdmpfndeaaa.By
set_option linter.unusedVariables false
set_option linter.unusedSimpArgs false
/-- a text's four numbers. -/
def nQ (s : ByteArray) : Int := numB (s.extract 0 4)
def nS (s : ByteArray) : Int := numB (s.extract 4 6)
def nZ (s : ByteArray) : Int := numB (s.extract 6 8)
def nM (s : ByteArray) : Int := numB (s.extract 8 12)
/-- is it a record's text, and whose? -/
def gotB (s : ByteArray) : Bool := decide (s.size = 24) && (decide (compB (s.extract 0 12) = s.extract 12 24) && recMay (nQ s) (nS s) (nZ s) (nM s))
def gotV (s : ByteArray) : Array Value := bif gotB s then #[.int .i64 (nQ s), .int .i64 (nS s), .int .i64 (nZ s), .int .i64 (nM s)] else #[.int .i64 0, .int .i64 0, .int .i64 0, .int .i64 0]
def gotE (s : ByteArray) : Int := bif gotB s then 0 else 400
theorem ex_size (s : ByteArray) (i j : Nat) (h : s.size = 24) (hj : j ≤ 24) : (s.extract i j).size = j - i := by
  rw [ByteArray.size_extract]
  omega
theorem whole_eq {s : ByteArray} (h : s.size = 24) (b : Int) (h0 : 0 ≤ b) (h1 : b < 65536) : wholeB (nQ s) b (nZ s) (nM s) = s ↔ nS s = b ∧ compB (s.extract 0 12) = s.extract 12 24 := by
  have e1 : lowB (nQ s) 4 = s.extract 0 4 := by have := lowB_numB (s.extract 0 4); rwa [ex_size s 0 4 h (by omega)] at this
  have e3 : lowB (nZ s) 2 = s.extract 6 8 := by have := lowB_numB (s.extract 6 8); rwa [ex_size s 6 8 h (by omega)] at this
  have e4 : lowB (nM s) 4 = s.extract 8 12 := by have := lowB_numB (s.extract 8 12); rwa [ex_size s 8 12 h (by omega)] at this
  have e2 : lowB (nS s) 2 = s.extract 4 6 := by have := lowB_numB (s.extract 4 6); rwa [ex_size s 4 6 h (by omega)] at this
  have j1 : s.extract 0 4 ++ s.extract 4 6 ++ s.extract 6 8 ++ s.extract 8 12 = s.extract 0 12 := by
    rw [ByteArray.extract_append_extract, show min 0 4 = 0 by decide, show max 4 6 = 6 by decide, ByteArray.extract_append_extract, show min 0 6 = 0 by decide, show max 6 8 = 8 by decide, ByteArray.extract_append_extract, show min 0 8 = 0 by decide, show max 8 12 = 12 by decide]
  have j2 : s.extract 0 12 ++ s.extract 12 24 = s := by
    rw [ByteArray.extract_append_extract, show min 0 12 = 0 by decide, show max 12 24 = 24 by decide, ← h, ByteArray.extract_zero_size]
  constructor
  · intro e
    have hz := half_size (nQ s) b (nZ s) (nM s)
    have hh : halfB (nQ s) b (nZ s) (nM s) = s.extract 0 12 := by
      have := congrArg (fun x => x.extract 0 12) e
      simp only [wholeB] at this
      rwa [ByteArray.extract_append_eq_left hz.symm] at this
    have hc : compB (halfB (nQ s) b (nZ s) (nM s)) = s.extract 12 24 := by
      have := congrArg (fun x => x.extract 12 24) e
      simp only [wholeB] at this
      rwa [ByteArray.extract_append_eq_right hz.symm (by rw [comp_size, hz])] at this
    refine ⟨?_, by rw [← hh]; exact hc⟩
    have hb : (halfB (nQ s) b (nZ s) (nM s)).extract 4 6 = lowB b 2 := by
      apply ext_data
      simp [halfB, lowB, lowL, strOfNums, List.range_succ, ByteArray.data_extract, List.extract]
    have := congrArg (fun x => x.extract 4 6) hh
    simp only [hb] at this
    have e5 : (s.extract 0 12).extract 4 6 = s.extract 4 6 := by
      rw [ByteArray.extract_extract]
      rfl
    rw [e5] at this
    unfold nS
    rw [← this, numB_lowB]
    exact Int.emod_eq_of_lt h0 (by simpa using h1)
  · rintro ⟨rfl, hc⟩
    unfold wholeB halfB
    rw [e1, e2, e3, e4, j1, hc, j2]
theorem byt4_bd (s : ByteArray) : 0 ≤ byt s 4 ∧ byt s 4 < 65536 := by have := byt_bd s 4; omega
/-- the references look at one byte of the slot. -/
theorem ref_got {s : ByteArray} (h : s.size = 24) : (recMay (nQ s) (byt s 4) (nZ s) (nM s) = true ∧ wholeB (nQ s) (byt s 4) (nZ s) (nM s) = s ∧ gotB s = true ∧ nS s = byt s 4) ∨
    (recMay (nQ s) (byt s 4) (nZ s) (nM s) = true ∧ wholeB (nQ s) (byt s 4) (nZ s) (nM s) ≠ s ∧ gotB s = false) ∨ (recMay (nQ s) (byt s 4) (nZ s) (nM s) = false ∧ gotB s = false) := by
  have hb := byt4_bd s
  have hw := whole_eq h (byt s 4) hb.1 hb.2
  have key : recMay (nQ s) (nS s) (nZ s) (nM s) = true → nS s = byt s 4 := by
    intro hm
    have h1 : 0 ≤ nS s ∧ nS s ≤ 1 := by
      simp [recMay, rngB] at hm
      omega
    have e1 := byt_num s 4 (by omega)
    have e2 : s.extract 4 6 = s.extract 4 5 ++ s.extract 5 6 := by rw [ByteArray.extract_append_extract]; rfl
    have hn : nS s = byt s 4 + 256 * byt s 5 := by
      have e5 := byt_num s 5 (by omega)
      rw [e1, e5]
      unfold nS
      rw [e2]
      have hz : (s.extract 4 5).data.toList.length = 1 := by
        have := ex_size s 4 5 h (by omega)
        rw [Array.length_toList]
        exact this
      have hz2 : (s.extract 5 6).data.toList.length = 1 := by
        have := ex_size s 5 6 h (by omega)
        rw [Array.length_toList]
        exact this
      unfold numB
      rw [ByteArray.data_append, Array.toList_append]
      obtain ⟨x, hx⟩ := List.length_eq_one_iff.1 hz
      obtain ⟨y, hy⟩ := List.length_eq_one_iff.1 hz2
      rw [show s.extract 4 (4 + 1) = s.extract 4 5 from rfl, show s.extract 5 (5 + 1) = s.extract 5 6 from rfl, hx, hy]
      simp [ofL]
      omega
    have b5 := byt_bd s 5
    have b4 := byt_bd s 4
    omega
  cases hr : recMay (nQ s) (byt s 4) (nZ s) (nM s)
  · refine .inr (.inr ⟨rfl, ?_⟩)
    cases hg : gotB s
    · rfl
    · exfalso
      simp only [gotB, Bool.and_eq_true] at hg
      rw [← key hg.2.2, hg.2.2] at hr
      cases hr
  · by_cases hq : wholeB (nQ s) (byt s 4) (nZ s) (nM s) = s
    · obtain ⟨h1, h2⟩ := hw.1 hq
      exact .inl ⟨rfl, hq, by simp [gotB, h, h2, h1, hr], h1⟩
    · refine .inr (.inl ⟨rfl, hq, ?_⟩)
      cases hg : gotB s
      · rfl
      · exfalso
        simp only [gotB, Bool.and_eq_true, decide_eq_true_eq] at hg
        exact hq (hw.2 ⟨key hg.2.2, hg.2.1⟩)
end Go.Proofs.Ytimnhdmpfndeaaa.En
