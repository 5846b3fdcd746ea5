/- Layer 8: the flash of one record that the law holds, reckoned out. -/
import Derived.Test.YtimnhdmpfndeaaaPlf
import Derived.Test.YtimnhdmpfndeaaaPlg
import Derived.Test.YtimnhdmpfndeaaaFlc
namespace Go.Proofs.Ytimnhdmpfndeaaa.Pl
open Go.RowKit Go.Proofs.Ytimnhdmpfndeaaa.Kt Go.Proofs.Ytimnhdmpfndeaaa.Lw Go.Proofs.Ytimnhdmpfndeaaa.St Go.Proofs.Ytimnhdmpfndeaaa.Nm Go.Proofs.Ytimnhdmpfndeaaa.By Go.Proofs.Ytimnhdmpfndeaaa.En Go.Proofs.Ytimnhdmpfndeaaa.Jr Go.Proofs.Ytimnhdmpfndeaaa.Im Go.Proofs.Ytimnhdmpfndeaaa.Sl Go.Proofs.Ytimnhdmpfndeaaa.Gr Go.Proofs.Ytimnhdmpfndeaaa.Ops Go.Proofs.Ytimnhdmpfndeaaa.Ch Go.Proofs.Ytimnhdmpfndeaaa.Fl
set_option linter.unusedVariables false
set_option linter.unusedSimpArgs false
def ababB : ByteArray := ⟨#[97, 98, 97, 98, 97, 98, 97, 98, 97, 98, 97, 98]⟩
/-- a flash with that image in slot 0 alone. -/
def lit1 : ByteArray := fullB 192 ++ ababB ++ fullB 564
theorem lit1_size : lit1.size = 768 := by decide +kernel
theorem abab_pad : padB ababB = ababB := by decide +kernel
theorem byt_lit1 {j : Nat} (h : j < 768) : byt lit1 j = if 192 ≤ j ∧ j < 204 then byt ababB (j - 192) else 255 := by
  have s1 := full_size 192
  have s2 : ababB.size = 12 := rfl
  unfold lit1
  rw [byt_app, ByteArray.size_append, s1, s2]
  by_cases h1 : j < 192 + 12
  · rw [if_pos h1, byt_app, s1]
    by_cases h2 : j < 192
    · rw [if_pos h2, if_neg (by omega), byt_full h2]
    · rw [if_neg h2, if_pos (by omega)]
  · rw [if_neg h1, if_neg (by omega), byt_full (by omega)]
theorem held1 : allB (fullB 768) (wordsL 192 ababB) = lit1 := by
  have hw := byt_write (f := fullB 768) (a := 192) (t := ababB) 3 (by decide) (by rw [full_size]; decide) (fun j h1 h2 => byt_full (by omega))
  have hz := write_size (f := fullB 768) (a := 192) (t := ababB) 3 (by rw [full_size]; decide)
  rw [full_size] at hz
  rw [abab_pad] at hw
  have e : wordsL 192 ababB = wordsN ((192 : Nat) : Int) ababB 3 := rfl
  rw [e]
  refine byt_ext (by rw [hz, lit1_size]) fun j hj => ?_
  rw [hz] at hj
  rw [hw j (by rw [full_size]; exact hj), byt_lit1 hj]
  by_cases h1 : 192 ≤ j ∧ j < 204
  · rw [if_pos h1, if_pos (by omega)]
  · rw [if_neg h1, if_neg (by omega), byt_full hj]
def sumN : Int := Cr.crcB ababB
theorem lit1_max : maxL (scanL lit1) = 0 := by decide +kernel
theorem lit1_img : imgB lit1 0 12 = ababB := by decide +kernel
theorem rec_lit1 : recV lit1 0 12 = #[.int .i64 1, .int .i64 0, .int .i64 12, .int .i64 sumN] ∧ recE lit1 0 12 = 0 := by
  have h1 : recOk lit1 0 12 = true := by simp [recOk, lit1_size]; decide
  constructor
  · unfold recV
    rw [h1, lit1_max, lit1_img]
    rfl
  · unfold recE
    rw [h1, lit1_max]
    rfl
theorem sum_may : recMay 1 0 12 sumN = true := by decide +kernel
theorem lit1_home : homeN lit1 = 0 := by decide +kernel
theorem lit1_free : freeO lit1 0 = some 0 := by decide +kernel
def entN : ByteArray := wholeB 1 0 12 sumN
theorem ent_size : entN.size = 24 := whole_size 1 0 12 sumN
theorem app_lit1 : appL lit1 1 0 12 sumN = wordsN ((0 : Nat) : Int) entN 6 := by
  have e : spotN lit1 = 0 := by simp only [spotN, lit1_home, lit1_free]; rfl
  have e2 : headL lit1 = [] := by simp only [headL, lit1_home, lit1_free]
  unfold appL
  rw [e, e2, List.nil_append]
  unfold wordsL
  rw [show wholeB 1 0 12 sumN = entN from rfl, ent_size]
  rfl
def lit2 : ByteArray := entN ++ fullB 168 ++ ababB ++ fullB 564
theorem lit2_size : lit2.size = 768 := by
  unfold lit2
  rw [ByteArray.size_append, ByteArray.size_append, ByteArray.size_append, ent_size, full_size, full_size]
  rfl
theorem ent_pad : padB entN = entN := by
  unfold padB
  rw [ent_size]
  apply byt_ext
  · rw [ByteArray.size_append, full_size]
    omega
  · intro j hj
    rw [ByteArray.size_append, full_size] at hj
    rw [byt_left _ _ (by omega)]
theorem byt_lit2 {j : Nat} (h : j < 768) : byt lit2 j = if j < 24 then byt entN j else byt lit1 j := by
  have s1 := full_size 168
  have s2 : ababB.size = 12 := rfl
  have s3 := ent_size
  rw [byt_lit1 h]
  unfold lit2
  rw [byt_app, ByteArray.size_append, ByteArray.size_append, s1, s2, s3]
  by_cases h1 : j < 24 + 168 + 12
  · rw [if_pos h1, byt_app, ByteArray.size_append, s1, s3]
    by_cases h2 : j < 24 + 168
    · rw [if_pos h2, byt_app, s3]
      by_cases h3 : j < 24
      · rw [if_pos h3, if_pos h3]
      · rw [if_neg h3, if_neg h3, if_neg (by omega), byt_full (by omega)]
    · rw [if_neg h2, if_neg (by omega), if_pos (by omega)]
  · rw [if_neg h1, if_neg (by omega), if_neg (by omega), byt_full (by omega)]
theorem held2 : allB lit1 (appL lit1 1 0 12 sumN) = lit2 := by
  rw [app_lit1]
  have hw := byt_write (f := lit1) (a := 0) (t := entN) 6 (by rw [ent_size]; decide) (by rw [lit1_size]; decide) (fun j h1 h2 => by rw [byt_lit1 (by omega), if_neg (by omega)])
  have hz := write_size (f := lit1) (a := 0) (t := entN) 6 (by rw [lit1_size]; decide)
  rw [lit1_size] at hz
  rw [ent_pad] at hw
  refine byt_ext (by rw [hz, lit2_size]) fun j hj => ?_
  rw [hz] at hj
  rw [hw j (by rw [lit1_size]; exact hj), byt_lit2 hj]
  by_cases h1 : j < 24
  · rw [if_pos (by omega), if_pos h1, Nat.sub_zero]
  · rw [if_neg (by omega), if_neg h1]
theorem lit2_max : maxL (scanL lit2) = 1 := by decide +kernel
theorem lit2_home : homeN lit2 = 0 := by decide +kernel
theorem lit2_free : freeO lit2 0 = some 1 := by decide +kernel
end Go.Proofs.Ytimnhdmpfndeaaa.Pl
