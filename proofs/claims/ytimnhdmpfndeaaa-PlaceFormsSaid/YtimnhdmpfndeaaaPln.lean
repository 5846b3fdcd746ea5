/- Layer 8: a flash with the greatest number, decided. -/
import Derived.Test.YtimnhdmpfndeaaaPll
namespace Go.Proofs.Ytimnhdmpfndeaaa.Pl
open Go.RowKit Go.Proofs.Ytimnhdmpfndeaaa.Kt Go.Proofs.Ytimnhdmpfndeaaa.Lw Go.Proofs.Ytimnhdmpfndeaaa.St Go.Proofs.Ytimnhdmpfndeaaa.Nm Go.Proofs.Ytimnhdmpfndeaaa.By Go.Proofs.Ytimnhdmpfndeaaa.En Go.Proofs.Ytimnhdmpfndeaaa.Jr Go.Proofs.Ytimnhdmpfndeaaa.Im Go.Proofs.Ytimnhdmpfndeaaa.Sl Go.Proofs.Ytimnhdmpfndeaaa.Gr Go.Proofs.Ytimnhdmpfndeaaa.Ops Go.Proofs.Ytimnhdmpfndeaaa.Ch Go.Proofs.Ytimnhdmpfndeaaa.Fl
set_option linter.unusedVariables false
set_option linter.unusedSimpArgs false
/-- the record of the greatest number, in bytes. -/
def topB : ByteArray := wholeB 1048576 0 5 0
theorem top_put : putB 1048576 0 5 0 = topB ∧ putE 1048576 0 5 0 = 0 := by
  have h : recMay 1048576 0 5 0 = true := by decide
  simp [putB, putE, h, topB]
theorem top_size : topB.size = 24 := whole_size _ _ _ _
def topF (j : Nat) : ByteArray := (fullB 768).extract 0 (24 * j) ++ topB ++ (fullB 768).extract (24 * j + 24) 768
theorem topF_size {j : Nat} (h : j < 8) : (topF j).size = 768 := by
  unfold topF
  rw [ByteArray.size_append, ByteArray.size_append, ByteArray.size_extract, ByteArray.size_extract, top_size, full_size]
  omega
theorem full_cut {n a b : Nat} (h : a ≤ b) (hb : b ≤ n) : (fullB n).extract a b = fullB (b - a) := by
  have h1 : ((fullB n).extract a b).size = b - a := by rw [ByteArray.size_extract, full_size]; omega
  refine byt_ext (by rw [h1, full_size]) fun j hj => ?_
  rw [h1] at hj
  rw [byt_ex _ _ _ _ (by omega) (by rw [full_size]; exact hb), byt_full (by omega), byt_full hj]
theorem topG_max0 : maxL (scanL (fullB 0 ++ topB ++ fullB 744)) = 1048576 := by decide +kernel
theorem topG_max1 : maxL (scanL (fullB 24 ++ topB ++ fullB 720)) = 1048576 := by decide +kernel
theorem topG_max2 : maxL (scanL (fullB 48 ++ topB ++ fullB 696)) = 1048576 := by decide +kernel
theorem topG_max3 : maxL (scanL (fullB 72 ++ topB ++ fullB 672)) = 1048576 := by decide +kernel
theorem topG_max4 : maxL (scanL (fullB 96 ++ topB ++ fullB 648)) = 1048576 := by decide +kernel
theorem topG_max5 : maxL (scanL (fullB 120 ++ topB ++ fullB 624)) = 1048576 := by decide +kernel
theorem topG_max6 : maxL (scanL (fullB 144 ++ topB ++ fullB 600)) = 1048576 := by decide +kernel
theorem topG_max7 : maxL (scanL (fullB 168 ++ topB ++ fullB 576)) = 1048576 := by decide +kernel
theorem topF_max {j : Nat} (h : j < 8) : maxL (scanL (topF j)) = 1048576 := by
  unfold topF
  rw [full_cut (by omega) (by omega), full_cut (by omega) (by omega)]
  have h : j = 0 ∨ j = 1 ∨ j = 2 ∨ j = 3 ∨ j = 4 ∨ j = 5 ∨ j = 6 ∨ j = 7 := by omega
  rcases h with rfl | rfl | rfl | rfl | rfl | rfl | rfl | rfl
  · exact topG_max0
  · exact topG_max1
  · exact topG_max2
  · exact topG_max3
  · exact topG_max4
  · exact topG_max5
  · exact topG_max6
  · exact topG_max7
theorem topF_next {j : Nat} (h : j < 8) : nextV (topF j) = #[.int .i64 0, .int .i64 801] := next_full (topF_size h) (topF_max h)
theorem full_max : maxL (scanL (fullB 768)) = 0 := by decide +kernel
theorem full_next : nextV (fullB 768) = #[.int .i64 1, .int .i64 0] := by
  rw [next_one (full_size 768) (by rw [full_max]; decide), full_max]
  rfl
end Go.Proofs.Ytimnhdmpfndeaaa.Pl
