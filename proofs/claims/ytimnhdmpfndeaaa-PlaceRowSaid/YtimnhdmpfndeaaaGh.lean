/- Texts laid as one: Plh Pli Plk Pll. -/
import Derived.Test.YtimnhdmpfndeaaaGp
import Derived.Test.YtimnhdmpfndeaaaGb
/- Layer 8: the flash of one record that the law holds, reckoned out. -/
section
namespace Go.Proofs.Ytimnhdmpfndeaaa.Pl
open Go.RowKit Go.Proofs.Ytimnhdmpfndeaaa.Kt Go.Proofs.Ytimnhdmpfndeaaa.Lw Go.Proofs.Ytimnhdmpfndeaaa.St Go.Proofs.Ytimnhdmpfndeaaa.Nm Go.Proofs.Ytimnhdmpfndeaaa.By Go.Proofs.Ytimnhdmpfndeaaa.En Go.Proofs.Ytimnhdmpfndeaaa.Jr Go.Proofs.Ytimnhdmpfndeaaa.Im Go.Proofs.Ytimnhdmpfndeaaa.Sl Go.Proofs.Ytimnhdmpfndeaaa.Gr Go.Proofs.Ytimnhdmpfndeaaa.Ops Go.Proofs.Ytimnhdmpfndeaaa.Ch Go.Proofs.Ytimnhdmpfndeaaa.Fl
set_option linter.unusedVariables false
set_option linter.unusedSimpArgs false
def ababB : ByteArray := ⟨#[97, 98, 97, 98, 97, 98, 97, 98, 97, 98, 97, 98]⟩
/-- a flash with that image in slot 0 alone. -/
def lit1 : ByteArray := fullB 192 ++ ababB ++ fullB 564
theorem lit1_size : lit1.size = 768 := by decide +kernel
theorem abab_pad : padB ababB = ababB := by decide +kernel
theorem byt_lit1 {j : Nat} (h : j < 768) : byt lit1 j = if 192 ≤ j ∧ j < 204 then byt ababB (j - 192) else 255 := by
  have s1 := full_size 192
  have s2 : ababB.size = 12 := rfl
  unfold lit1
  rw [byt_app, ByteArray.size_append, s1, s2]
  by_cases h1 : j < 192 + 12
  · rw [if_pos h1, byt_app, s1]
    by_cases h2 : j < 192
    · rw [if_pos h2, if_neg (by omega), byt_full h2]
    · rw [if_neg h2, if_pos (by omega)]
  · rw [if_neg h1, if_neg (by omega), byt_full (by omega)]
theorem held1 : allB (fullB 768) (wordsL 192 ababB) = lit1 := by
  have hw := byt_write (f := fullB 768) (a := 192) (t := ababB) 3 (by decide) (by rw [full_size]; decide) (fun j h1 h2 => byt_full (by omega))
  have hz := write_size (f := fullB 768) (a := 192) (t := ababB) 3 (by rw [full_size]; decide)
  rw [full_size] at hz
  rw [abab_pad] at hw
  have e : wordsL 192 ababB = wordsN ((192 : Nat) : Int) ababB 3 := rfl
  rw [e]
  refine byt_ext (by rw [hz, lit1_size]) fun j hj => ?_
  rw [hz] at hj
  rw [hw j (by rw [full_size]; exact hj), byt_lit1 hj]
  by_cases h1 : 192 ≤ j ∧ j < 204
  · rw [if_pos h1, if_pos (by omega)]
  · rw [if_neg h1, if_neg (by omega), byt_full hj]
def sumN : Int := Cr.crcB ababB
theorem lit1_max : maxL (scanL lit1) = 0 := by decide +kernel
theorem lit1_img : imgB lit1 0 12 = ababB := by decide +kernel
theorem rec_lit1 : recV lit1 0 12 = #[.int .i64 1, .int .i64 0, .int .i64 12, .int .i64 sumN] ∧ recE lit1 0 12 = 0 := by
  have h1 : recOk lit1 0 12 = true := by simp [recOk, lit1_size]; decide
  constructor
  · unfold recV
    rw [h1, lit1_max, lit1_img]
    rfl
  · unfold recE
    rw [h1, lit1_max]
    rfl
theorem sum_may : recMay 1 0 12 sumN = true := by decide +kernel
theorem lit1_home : homeN lit1 = 0 := by decide +kernel
theorem lit1_free : freeO lit1 0 = some 0 := by decide +kernel
def entN : ByteArray := wholeB 1 0 12 sumN
theorem ent_size : entN.size = 24 := whole_size 1 0 12 sumN
theorem app_lit1 : appL lit1 1 0 12 sumN = wordsN ((0 : Nat) : Int) entN 6 := by
  have e : spotN lit1 = 0 := by simp only [spotN, lit1_home, lit1_free]; rfl
  have e2 : headL lit1 = [] := by simp only [headL, lit1_home, lit1_free]
  unfold appL
  rw [e, e2, List.nil_append]
  unfold wordsL
  rw [show wholeB 1 0 12 sumN = entN from rfl, ent_size]
  rfl
def lit2 : ByteArray := entN ++ fullB 168 ++ ababB ++ fullB 564
theorem lit2_size : lit2.size = 768 := by
  unfold lit2
  rw [ByteArray.size_append, ByteArray.size_append, ByteArray.size_append, ent_size, full_size, full_size]
  rfl
theorem ent_pad : padB entN = entN := by
  unfold padB
  rw [ent_size]
  apply byt_ext
  · rw [ByteArray.size_append, full_size]
    omega
  · intro j hj
    rw [ByteArray.size_append, full_size] at hj
    rw [byt_left _ _ (by omega)]
theorem byt_lit2 {j : Nat} (h : j < 768) : byt lit2 j = if j < 24 then byt entN j else byt lit1 j := by
  have s1 := full_size 168
  have s2 : ababB.size = 12 := rfl
  have s3 := ent_size
  rw [byt_lit1 h]
  unfold lit2
  rw [byt_app, ByteArray.size_append, ByteArray.size_append, s1, s2, s3]
  by_cases h1 : j < 24 + 168 + 12
  · rw [if_pos h1, byt_app, ByteArray.size_append, s1, s3]
    by_cases h2 : j < 24 + 168
    · rw [if_pos h2, byt_app, s3]
      by_cases h3 : j < 24
      · rw [if_pos h3, if_pos h3]
      · rw [if_neg h3, if_neg h3, if_neg (by omega), byt_full (by omega)]
    · rw [if_neg h2, if_neg (by omega), if_pos (by omega)]
  · rw [if_neg h1, if_neg (by omega), if_neg (by omega), byt_full (by omega)]
theorem held2 : allB lit1 (appL lit1 1 0 12 sumN) = lit2 := by
  rw [app_lit1]
  have hw := byt_write (f := lit1) (a := 0) (t := entN) 6 (by rw [ent_size]; decide) (by rw [lit1_size]; decide) (fun j h1 h2 => by rw [byt_lit1 (by omega), if_neg (by omega)])
  have hz := write_size (f := lit1) (a := 0) (t := entN) 6 (by rw [lit1_size]; decide)
  rw [lit1_size] at hz
  rw [ent_pad] at hw
  refine byt_ext (by rw [hz, lit2_size]) fun j hj => ?_
  rw [hz] at hj
  rw [hw j (by rw [lit1_size]; exact hj), byt_lit2 hj]
  by_cases h1 : j < 24
  · rw [if_pos (by omega), if_pos h1, Nat.sub_zero]
  · rw [if_neg (by omega), if_neg h1]
theorem lit2_max : maxL (scanL lit2) = 1 := by decide +kernel
theorem lit2_home : homeN lit2 = 0 := by decide +kernel
theorem lit2_free : freeO lit2 0 = some 1 := by decide +kernel
end Go.Proofs.Ytimnhdmpfndeaaa.Pl
end
/- Layer 8: the law's held flash: the walk; steps that may be. -/
section
namespace Go.Proofs.Ytimnhdmpfndeaaa.Pl
open Go.RowKit Go.Proofs.Ytimnhdmpfndeaaa.Kt Go.Proofs.Ytimnhdmpfndeaaa.Lw Go.Proofs.Ytimnhdmpfndeaaa.St Go.Proofs.Ytimnhdmpfndeaaa.Nm Go.Proofs.Ytimnhdmpfndeaaa.By Go.Proofs.Ytimnhdmpfndeaaa.En Go.Proofs.Ytimnhdmpfndeaaa.Jr Go.Proofs.Ytimnhdmpfndeaaa.Im Go.Proofs.Ytimnhdmpfndeaaa.Sl Go.Proofs.Ytimnhdmpfndeaaa.Gr Go.Proofs.Ytimnhdmpfndeaaa.Ops Go.Proofs.Ytimnhdmpfndeaaa.Ch Go.Proofs.Ytimnhdmpfndeaaa.Fl
set_option linter.unusedVariables false
set_option linter.unusedSimpArgs false
attribute [local irreducible] gotB goodB Cr.crcB nQ nS nZ nM placeB wholeB lit1 lit2 entN sumN
theorem word_size {t : ByteArray} {i : Nat} (h : i < (t.size + 3) / 4) : (wordB t i).size = 4 := by
  unfold wordB
  rw [ByteArray.size_append, full_size, ByteArray.size_extract]
  omega
/-- all may be done. -/
def MayL (os : List OpV) : Prop := ∀ o ∈ os, opMay o = true ∧ OpOk o
theorem MayL.app {a b : List OpV} (h : MayL a) (k : MayL b) : MayL (a ++ b) := by
  intro o ho
  rcases List.mem_append.1 ho with h1 | h1
  · exact h o h1
  · exact k o h1
theorem words_may {a : Int} {t : ByteArray} (a0 : 0 ≤ a) (a4 : a % 4 = 0) (ha : a + (t.size : Int) ≤ 768) : MayL (wordsL a t) := by
  intro o ho
  simp only [wordsL, wordsN, List.mem_map, List.mem_range] at ho
  obtain ⟨i, hi, rfl⟩ := ho
  have hz := word_size hi
  refine ⟨?_, ?_, ?_, ?_⟩
  · have h1 : rngB (a + 4 * (i : Int)) 0 764 = true := by simp [rngB]; omega
    have h2 : ((a + 4 * (i : Int)) % 4 == 0) = true := by simp; omega
    simp [opMay, wordV, bgnB, h1, h2, hz]
    exact a4
  · simp only [wordV]; omega
  · simp only [wordV]; omega
  · simp only [wordV]; omega
theorem spot_ok (f : ByteArray) : 0 ≤ spotN f ∧ spotN f % 4 = 0 ∧ spotN f ≤ 168 := by
  have hl := home_lt f
  unfold spotN
  cases ho : freeO f (homeN f) with
  | none => simp only; omega
  | some k =>
    have := freeO_lt ho
    simp only
    omega
theorem head_may (f : ByteArray) : MayL (headL f) := by
  have hl := home_lt f
  intro o ho
  unfold headL at ho
  cases hf : freeO f (homeN f) with
  | some k => rw [hf] at ho; simp at ho
  | none =>
    rw [hf] at ho
    simp at ho
    subst ho
    refine ⟨?_, ?_, ?_, ?_⟩
    · have h1 : ((⟨#[]⟩ : ByteArray).toList.isEmpty) = true := by decide +kernel
      simp [opMay, rngB, h1]
      omega
    · simp only; omega
    · simp only; omega
    · simp only; decide
theorem app_may (f : ByteArray) (q s z m : Int) : MayL (appL f q s z m) := by
  have h := spot_ok f
  have hz := whole_size q s z m
  exact (head_may f).app (words_may h.1 h.2.1 (by omega))
theorem all_size {f : ByteArray} : ∀ {os : List OpV}, f.size = 768 → MayL os → (allB f os).size = 768
  | [], h, _ => h
  | o :: os, h, hm => all_size (f := doB f o) (os := os) (do_size h (hm o (by simp)).1) (fun p hp => hm p (by simp [hp]))
theorem all_next {f : ByteArray} {os : List OpV} {i : Nat} {o : OpV} (h : os[i]? = some o) : allB f (os.take (i + 1)) = doB (allB f (os.take i)) o := by
  rw [List.take_add_one, h]
  exact all_snoc _ _ _
theorem MayL.take {os : List OpV} (h : MayL os) (i : Nat) : MayL (os.take i) := fun o ho => h o (List.mem_of_mem_take ho)
theorem row_of {w : World} {A : Option Addr} {os : List OpV} (h : Lies encOp 3 w A os) (hl : os.length ≤ 1000) (hm : MayL os) : Row w A os := ⟨h, by omega, fun o ho => (hm o ho).2⟩
theorem words12_c (w : World) : Calls Try.prog 41 #[.int .i64 192, .string ⟨#[97, 98, 97, 98, 97, 98, 97, 98, 97, 98, 97, 98]⟩] w fun e w' => ∃ A c, e = .returned (.tuple #[.slice A 3 c, .int .i64 0]) ∧ w'.ownsRow w.heap.size 50 3 (.slice A 3 c) 3 ((wordsL 192 ababB).flatMap encOp) ∧ Below w.heap.size w w' :=
  rwords_c 192 ababB w (by decide) (by decide) (by decide)
set_option maxRecDepth 100000 in
set_option maxHeartbeats 12800000 in
theorem held_c (w : World) : Calls Try.prog 26 #[] w fun e w' => e = .returned (.string lit2) ∧ Below w.heap.size w w' := by
  have HB := Below.refl w.heap.size w
  have bl := Lib.hid (fun W : World => blank_c W)
  have wd := Lib.hid (fun W : World => words12_c W)
  have hz0 := full_size 768
  have M1 := Lib.hid (words_may (a := 192) (t := ababB) (by decide) (by decide) (by decide))
  have H1 := Lib.hid held1
  have ll := Lib.hid (show (wordsL 192 ababB).length = 3 from rfl)
  have rc := Lib.hid (fun W : World => rrec_c lit1 0 12 W (by rw [lit1_size]; decide))
  rw [rec_lit1.1, rec_lit1.2] at rc
  have ap := Lib.hid (fun W : World => rappend_yes lit1 1 0 12 sumN W lit1_size sum_may)
  have M2 := Lib.hid (app_may lit1 1 0 12 sumN)
  have H2 := Lib.hid held2
  have l2 := Lib.hid (show (appL lit1 1 0 12 sumN).length = 6 by rw [app_lit1, wordsN_len])
  have ap2 : Hid (∀ W : World, Calls Try.prog 13 #[.string lit1, .agg #[.int .i64 1, .int .i64 0, .int .i64 12, .int .i64 sumN]] W fun e w' => ∃ A c, e = .returned (.tuple #[.slice A 6 c, .int .i64 0]) ∧ w'.ownsRow W.heap.size 50 3 (.slice A 6 c) 6 ((appL lit1 1 0 12 sumN).flatMap encOp) ∧ Below W.heap.size W w') := Lib.hid (fun W => by
    refine (ap.out W).mono ?_
    rintro e w' ⟨A, c, h1, h2, h3⟩
    rw [l2.out] at h1 h2
    exact ⟨A, c, h1, h2, h3⟩)
  have zl1 := lit1_size
  clear ap
  generalize (wordsL 192 ababB) = O1 at *
  generalize (appL lit1 1 0 12 sumN) = O2 at *
  generalize fullB 768 = F0 at *
  generalize lit1 = F1 at *
  generalize lit2 = F2 at *
  go_enter Try.func26, Try.ntmps26
  go_wp2_with (first | (go_at_call 24; with_reducible refine (bl.out _).mono ?_; rintro e w' ⟨rfl, hb⟩; have HB := bl_step (w := w) (by repeat (with_reducible first | exact HB | (refine bl_set ?_ (by omega)) | apply bl_alloc | apply bl_drew | apply bl_drewN | fail)) hb; have hzB := HB.size) | (go_at_call 41; (with_reducible refine (wd.out _).mono ?_); rintro e w2 ⟨A, c, rfl, hown, hb2⟩) | fail)
  have HB2 := bl_step HB hb2
  have R1 := row_of (lies_own encOp_len hown ll.out) (by rw [ll.out]; decide) M1.out
  clear hown hb2 HB
  go_loopg [1, 4] 3 (fun gg s1 s4 wr => ∃ i : Nat, i ≤ 3 ∧ 3 - i ≤ gg ∧ s4 = .int .i64 i ∧ s1 = .string (allB F0 (O1.take i)) ∧ Aside (Below w.heap.size w wr) ∧ Aside (Row wr A O1))
  case atStart => exact ⟨0, by omega, by omega, rfl, rfl, HB2, R1⟩
  case round =>
    clear HB2 R1
    obtain ⟨i, hi, hg, rfl, rfl, BW, BR⟩ := hrel
    have HB := BW.out
    by_cases hlt : i < 3
    · obtain ⟨b, off, x, rfl, hbs, hx, hok, c0, c1, c2⟩ := BR.out.at_ (j := i) (by rw [ll.out]; exact hlt)
      have hmx := M1.out x (List.mem_of_getElem? hx)
      have hsz := all_size hz0 (M1.out.take i)
      have NX := Lib.hid (all_next (f := F0) hx)
      have dd := Lib.hid (fun W : World => rdo_c (allB F0 (O1.take i)) x W (by omega) hok)
      rw [do_yes hsz hmx.1] at dd
      have hi3 : (i : Int) < 3 := by omega
      have hi0 : (0 : Int) ≤ (i : Int) := by omega
      clear hx hok hmx hsz
      go_wp2_with (first | (go_at_call 21; (with_reducible refine (dd.out _).mono ?_); rintro e w3 ⟨rfl, hb3⟩) | fail)
      go_roundg (3 - (i + 1))
      case measure => omega
      case rel => exact ⟨i + 1, by omega, by omega, by go_num, (by rw [NX.out]), bl_step HB hb3, BR.out.below hb3⟩
    · obtain rfl : i = 3 := by omega
      have he : allB F0 (O1.take 3) = F1 := by
        rw [List.take_of_length_le (by rw [ll.out]; decide)]
        exact H1.out
      rw [he]
      clear he BR BW
      go_wp2_with (first | (go_at_call 19; with_reducible refine (rc.out _).mono ?_; rintro e w' ⟨rfl, hb⟩; have HB := bl_step (w := w) (by repeat (with_reducible first | exact HB | (refine bl_set ?_ (by omega)) | apply bl_alloc | apply bl_drew | apply bl_drewN | fail)) hb; have hzB := HB.size; have K1 := fun cs => Blk.new w' cs 23) | (go_at_call 13; (with_reducible refine (ap2.out _).mono ?_); rintro e w4 ⟨A4, c4, rfl, hown4, hb4⟩) | fail)
      have HB4 : Below w.heap.size w w4 := bl_step (w := w) (by repeat (with_reducible first | exact HB | apply bl_alloc | fail)) hb4
      have R2 := row_of (lies_own encOp_len hown4 l2.out) (by rw [l2.out]; decide) M2.out
      clear hown4 hb4 HB K1 hb hzB
      go_loopg [1, 7] 6 (fun gg s1 s7 wr => ∃ i : Nat, i ≤ 6 ∧ 6 - i ≤ gg ∧ s7 = .int .i64 i ∧ s1 = .string (allB F1 (O2.take i)) ∧ Aside (Below w.heap.size w wr) ∧ Aside (Row wr A4 O2))
      case atStart => exact ⟨0, by omega, by omega, rfl, rfl, HB4, R2⟩
      case round =>
        clear HB4 R2
        obtain ⟨i, hi, hg, rfl, rfl, BW, BR⟩ := hrel
        have HB := BW.out
        by_cases hlt : i < 6
        · obtain ⟨b, off, x, rfl, hbs, hx, hok, c0, c1, c2⟩ := BR.out.at_ (j := i) (by rw [l2.out]; exact hlt)
          have hmx := M2.out x (List.mem_of_getElem? hx)
          have hsz := all_size zl1 (M2.out.take i)
          have NX := Lib.hid (all_next (f := F1) hx)
          have dd := Lib.hid (fun W : World => rdo_c (allB F1 (O2.take i)) x W (by omega) hok)
          rw [do_yes hsz hmx.1] at dd
          have hi3 : (i : Int) < 6 := by omega
          have hi0 : (0 : Int) ≤ (i : Int) := by omega
          clear hx hok hmx hsz
          go_wp2_with (first | (go_at_call 21; (with_reducible refine (dd.out _).mono ?_); rintro e w3 ⟨rfl, hb3⟩) | fail)
          go_roundg (6 - (i + 1))
          case measure => omega
          case rel => exact ⟨i + 1, by omega, by omega, by go_num, (by rw [NX.out]), bl_step HB hb3, BR.out.below hb3⟩
        · obtain rfl : i = 6 := by omega
          have he : allB F1 (O2.take 6) = F2 := by
            rw [List.take_of_length_le (by rw [l2.out]; decide)]
            exact H2.out
          rw [he]
          clear he BR BW
          go_wp2_with fail
          go_ret
          exact ⟨rfl, HB⟩
end Go.Proofs.Ytimnhdmpfndeaaa.Pl
end
/- Layer 8: is the law awake. -/
section
namespace Go.Proofs.Ytimnhdmpfndeaaa.Pl
open Go.RowKit Go.Proofs.Ytimnhdmpfndeaaa.Kt Go.Proofs.Ytimnhdmpfndeaaa.Lw Go.Proofs.Ytimnhdmpfndeaaa.St Go.Proofs.Ytimnhdmpfndeaaa.Nm Go.Proofs.Ytimnhdmpfndeaaa.By Go.Proofs.Ytimnhdmpfndeaaa.En Go.Proofs.Ytimnhdmpfndeaaa.Jr Go.Proofs.Ytimnhdmpfndeaaa.Im Go.Proofs.Ytimnhdmpfndeaaa.Sl Go.Proofs.Ytimnhdmpfndeaaa.Gr Go.Proofs.Ytimnhdmpfndeaaa.Ops Go.Proofs.Ytimnhdmpfndeaaa.Ch Go.Proofs.Ytimnhdmpfndeaaa.Fl
set_option linter.unusedVariables false
set_option linter.unusedSimpArgs false
def abab8 : ByteArray := ⟨#[97, 98, 97, 98, 97, 98, 97, 98]⟩
def sum8 : Int := Cr.crcB abab8
theorem lit2_img : imgB lit2 0 8 = abab8 := by decide +kernel
theorem lit2_next : nextV lit2 = #[.int .i64 2, .int .i64 0] := by
  rw [next_one lit2_size (by rw [lit2_max]; decide), lit2_max]
  rfl
theorem none_next : nextV ⟨#[]⟩ = #[.int .i64 0, .int .i64 800] := next_form (by decide)
theorem rec_lit2 : recV lit2 0 8 = #[.int .i64 2, .int .i64 0, .int .i64 8, .int .i64 sum8] ∧ recE lit2 0 8 = 0 := by
  have h1 : recOk lit2 0 8 = true := by simp [recOk, lit2_size]; decide
  constructor
  · unfold recV
    rw [h1, lit2_max, lit2_img]
    rfl
  · unfold recE
    rw [h1, lit2_max]
    rfl
theorem sum8_may : recMay 2 0 8 sum8 = true := by decide +kernel
theorem app_lit2 : appL lit2 2 0 8 sum8 = wordsN ((24 : Nat) : Int) (wholeB 2 0 8 sum8) 6 := by
  have e : spotN lit2 = 24 := by simp only [spotN, lit2_home, lit2_free]; rfl
  have e2 : headL lit2 = [] := by simp only [headL, lit2_home, lit2_free]
  unfold appL
  rw [e, e2, List.nil_append]
  unfold wordsL
  rw [whole_size]
  rfl
attribute [local irreducible] gotB goodB Cr.crcB nQ nS nZ nM placeB wholeB lit1 lit2 entN sumN sum8
set_option maxRecDepth 100000 in
set_option maxHeartbeats 12800000 in
theorem awake_c (w : World) : Calls Try.prog 17 #[] w fun e w' => e = .returned (.bool true) ∧ Below w.heap.size w w' := by
  have HB := Below.refl w.heap.size w
  have hd := Lib.hid (fun W : World => held_c W)
  have nx := Lib.hid (fun W : World => next_c lit2 W (by rw [lit2_size]; decide))
  rw [lit2_next] at nx
  have n0 := Lib.hid (fun W : World => next_c ⟨#[]⟩ W (by decide))
  rw [none_next] at n0
  have rc := Lib.hid (fun W : World => rrec_c lit2 0 8 W (by rw [lit2_size]; decide))
  rw [rec_lit2.1, rec_lit2.2] at rc
  have l6 : (appL lit2 2 0 8 sum8).length = 6 := by rw [app_lit2, wordsN_len]
  obtain ⟨x0, hx0, hx1, hx2⟩ : ∃ x, (appL lit2 2 0 8 sum8)[0]? = some x ∧ x.1 = false ∧ x.2.1 = 24 := ⟨_, by rw [app_lit2]; rfl, rfl, rfl⟩
  have ap : Hid (∀ W : World, Calls Try.prog 12 #[.string lit2, .agg #[.int .i64 2, .int .i64 0, .int .i64 8, .int .i64 sum8]] W fun e w' => ∃ A c, e = .returned (.tuple #[.slice A 6 c, .int .i64 0]) ∧ Lies encOp 3 w' A (appL lit2 2 0 8 sum8) ∧ Below W.heap.size W w') := Lib.hid (fun W => by
    refine (append_yes lit2 2 0 8 sum8 W lit2_size sum8_may).mono ?_
    rintro e w' ⟨A, c, h1, h2, h3⟩
    exact ⟨A, c, by rw [h1, l6], lies_own encOp_len h2 rfl, h3⟩)
  have a0 := Lib.hid (fun W : World => append_no lit2 0 0 0 0 W (by rw [lit2_size]; decide) (by rintro ⟨_, h⟩; exact absurd h (by decide)))
  have LX := Lib.hid hx0
  have LL := Lib.hid l6
  clear hx0 l6
  generalize (appL lit2 2 0 8 sum8) = OL at *
  generalize lit2 = F2 at *
  generalize sum8 = S8 at *
  go_enter Try.func17, Try.ntmps17
  go_upto_region 3 with (first | (go_at_call 26; with_reducible refine (hd.out _).mono ?_; rintro e w' ⟨rfl, hb⟩; have HB := bl_step (w := w) (by repeat (with_reducible first | exact HB | (refine bl_set ?_ (by omega)) | apply bl_alloc | apply bl_drew | apply bl_drewN | fail)) hb; have hzB := HB.size) | (go_at_call 10; with_reducible refine (nx.out _).mono ?_; rintro e w' ⟨rfl, hb⟩; have HB := bl_step (w := w) (by repeat (with_reducible first | exact HB | (refine bl_set ?_ (by omega)) | apply bl_alloc | apply bl_drew | apply bl_drewN | fail)) hb; have hzB := HB.size) | (go_at_call 19; with_reducible refine (rc.out _).mono ?_; rintro e w' ⟨rfl, hb⟩; have HB := bl_step (w := w) (by repeat (with_reducible first | exact HB | (refine bl_set ?_ (by omega)) | apply bl_alloc | apply bl_drew | apply bl_drewN | fail)) hb; have hzB := HB.size; have K1 := fun cs => Blk.new w' cs 23) | fail)
  have HB1 := bl_alloc HB (.cells #[.int .i64 2, .int .i64 0, .int .i64 8, .int .i64 S8] 23)
  obtain ⟨d0, d1, d2, d3, _⟩ := Blk.all4 (K1 #[.int .i64 2, .int .i64 0, .int .i64 8, .int .i64 S8])
  clear HB K1 hb hzB
  generalize w'.alloc (.cells #[.int .i64 2, .int .i64 0, .int .i64 8, .int .i64 S8] 23) = w1 at *
  generalize w'.heap.size = g at *
  have HC : w1.cell? ⟨g, 0, none⟩ = some (.int .i64 2) ∧ w1.cell? ⟨g, 1, none⟩ = some (.int .i64 0) ∧ w1.cell? ⟨g, 2, none⟩ = some (.int .i64 8) ∧ w1.cell? ⟨g, 3, none⟩ = some (.int .i64 S8) := ⟨d0, d1, d2, d3⟩
  clear d0 d1 d2 d3
  go_cut [5, 6] (fun v5 v6 wc => ∃ A c, v5 = .slice A 6 c ∧ v6 = .int .i64 0 ∧ Aside (Lies encOp 3 wc A OL) ∧ Aside (Below w.heap.size w wc))
  case first =>
    go_region_held3 (fun W => W.cell? ⟨g, 0, none⟩ = some (.int .i64 2) ∧ W.cell? ⟨g, 1, none⟩ = some (.int .i64 0) ∧ W.cell? ⟨g, 2, none⟩ = some (.int .i64 8) ∧ W.cell? ⟨g, 3, none⟩ = some (.int .i64 S8) ∧ Below w1.heap.size w1 W) (first | (refine k4 HC ?_; (repeat (with_reducible first | exact Below.refl _ _ | (apply kz4; assumption) | apply bl_alloc | apply bl_drew | apply bl_drewN | (refine bl_setn ?_ (by apply kz4; assumption)) | (refine bl_step ?_ (by assumption)) | fail)); done) | fail) (first | (go_at_call 26; refine (hd.out _).mono ?_; rintro e wq ⟨rfl, hb⟩) | (go_at_call 12; refine (ap.out _).mono ?_; rintro e wq ⟨A, c, rfl, hL, hb⟩) | fail)
    all_goals (go_wp2_with fail; go_meet; rename_i hh; exact ⟨_, _, rfl, rfl, hL, bl_step HB1 hh.2.2.2.2⟩)
  case rest =>
    obtain ⟨A, c, rfl, rfl, BL, BW⟩ := hcut
    clear HB1 HC
    obtain ⟨b, off, rfl, hbs, hcs⟩ := BL.out.some_ (by intro h; have := LX.out; rw [h] at this; simp at this)
    have q0 := hcs 0 _ LX.out 0 _ rfl
    have q1 := hcs 0 _ LX.out 1 _ rfl
    rw [hx1] at q0
    rw [hx2] at q1
    simp only [Nat.zero_mul, Nat.add_zero] at q0 q1
    clear hcs BL
    go_upto_region 6 with (first | (go_at_call 10; (with_reducible refine (n0.out _).mono ?_); rintro e w2 ⟨rfl, h2⟩) | (go_at_call 26; (with_reducible refine (hd.out _).mono ?_); rintro e w3 ⟨rfl, h3⟩) | (go_at_call 12; (with_reducible refine (a0.out _).mono ?_); rintro e w4 ⟨rfl, h4⟩) | fail)
    have BB := bl_step (bl_step h2 h3) h4
    have HB := bl_step BW.out BB
    have p0 := cb BB q0
    have p1 := cb BB q1
    clear q0 q1 h2 h3 h4 BB BW
    go_wp2_with (first | (go_at_call 14; with_reducible refine (enum_c _ _).mono ?_; rintro e w' ⟨rfl, rfl⟩) | fail)
    go_ret
    exact ⟨rfl, HB⟩
end Go.Proofs.Ytimnhdmpfndeaaa.Pl
end
/- Layer 8: the law of places, whole. -/
section
namespace Go.Proofs.Ytimnhdmpfndeaaa.Pl
open Go.RowKit Go.Proofs.Ytimnhdmpfndeaaa.Kt Go.Proofs.Ytimnhdmpfndeaaa.Lw Go.Proofs.Ytimnhdmpfndeaaa.St Go.Proofs.Ytimnhdmpfndeaaa.Nm Go.Proofs.Ytimnhdmpfndeaaa.By Go.Proofs.Ytimnhdmpfndeaaa.En Go.Proofs.Ytimnhdmpfndeaaa.Jr Go.Proofs.Ytimnhdmpfndeaaa.Im Go.Proofs.Ytimnhdmpfndeaaa.Sl Go.Proofs.Ytimnhdmpfndeaaa.Gr Go.Proofs.Ytimnhdmpfndeaaa.Ops Go.Proofs.Ytimnhdmpfndeaaa.Ch Go.Proofs.Ytimnhdmpfndeaaa.Fl
set_option linter.unusedVariables false
set_option linter.unusedSimpArgs false
attribute [local irreducible] gotB goodB Cr.crcB nQ nS nZ nM placeB wholeB
theorem own_open {W : World} {base k n c : Nat} {e : TypeId} {A : Option Addr} {cs : List Value} (h : W.ownsRow base e k (.slice A n c) n cs) (hn : 0 < n) : ∃ g, A = some ⟨g, 0, none⟩ ∧ base ≤ g ∧ n ≤ c ∧ c ≤ 9223372036854775807 := by
  rcases h.2 with ⟨_, h0⟩ | ⟨g, cap, cur, hv, hb, hg, hnc, hcm, _⟩
  · omega
  · injection hv with h1 h2 h3
    subst h3
    exact ⟨g, h1, hb, hnc, hcm⟩
theorem app_len (f : ByteArray) (q s z m : Int) : 6 ≤ (appL f q s z m).length ∧ (appL f q s z m).length ≤ 7 := by
  have h : (headL f).length ≤ 1 := by
    unfold headL
    cases freeO f (homeN f) <;> simp
  unfold appL
  rw [List.length_append, words24_len (whole_size q s z m)]
  omega
theorem next_two (f : ByteArray) : ∃ a b : Int, nextV f = #[.int .i64 a, .int .i64 b] := by
  unfold nextV
  split
  · split <;> exact ⟨_, _, rfl⟩
  · exact ⟨_, _, rfl⟩
theorem row_none {w : World} {A : Option Addr} : Row w A [] := ⟨Lies.nil, by simp, fun o ho => by simp at ho⟩
set_option maxRecDepth 100000 in
set_option maxHeartbeats 6400000 in
theorem places_no (f : ByteArray) (q s z m : Int) (w : World) (h : f.size ≤ 9223372036854775807) (hn : ¬ (f.size = 768 ∧ recMay q s z m = true)) :
    Calls Try.prog 3 #[.string f, .agg #[.int .i64 q, .int .i64 s, .int .i64 z, .int .i64 m]] w fun e w' => e = .returned (.bool true) ∧ Below w.heap.size w w' := by
  have HB := Below.refl w.heap.size w
  have K0 := Blk.new w #[.int .i64 q, .int .i64 s, .int .i64 z, .int .i64 m] 23
  have nx := Lib.hid (fun W : World => next_c f W h)
  have rn := Lib.hid (fun W : World => rnext_c f W h)
  obtain ⟨a, b, hab⟩ := next_two f
  rw [hab] at nx rn
  have ap := Lib.hid (fun W : World => append_no f q s z m W h hn)
  have ra := Lib.hid (fun W : World => rappend_no f q s z m W h hn)
  have sm := Lib.hid (fun W : World => same_c none none 0 0 0 0 [] [] W row_none row_none rfl rfl)
  rw [show decide (([] : List OpV) = []) = true from rfl] at sm
  clear hab h hn
  go_enter Try.func3, Try.ntmps3
  go_wp2_with (first | (go_at_call 10; with_reducible refine (nx.out _).mono ?_; rintro e w' ⟨rfl, hb⟩; have HB := bl_step (w := w) (by repeat (with_reducible first | exact HB | (refine bl_set ?_ (by omega)) | apply bl_alloc | apply bl_drew | apply bl_drewN | fail)) hb; have hzB := HB.size; have K0 := Blk.on (by first | exact K0 | exact K0 #[] | exact K0 (.cells #[] 0) #[]) (by repeat (with_reducible first | exact K0 | exact K0 _ | exact K0 _ _ | apply Blk.alloc | apply Blk.drew | apply Blk.drewN | apply Blk.set4_0 | apply Blk.set4_1 | apply Blk.set4_2 | apply Blk.set4_3 | (apply Blk.off; (first | assumption | omega | (simp; omega))) | fail)) hb; (try clear cK0_0 cK0_1 cK0_2 cK0_3 fK0 lK0 nK0 mK0); obtain ⟨cK0_0, cK0_1, cK0_2, cK0_3, fK0, lK0, nK0, mK0⟩ := Blk.all4 K0) | (go_at_call 11; with_reducible refine (rn.out _).mono ?_; rintro e w' ⟨rfl, hb⟩; have HB := bl_step (w := w) (by repeat (with_reducible first | exact HB | (refine bl_set ?_ (by omega)) | apply bl_alloc | apply bl_drew | apply bl_drewN | fail)) hb; have hzB := HB.size; have K0 := Blk.on (by first | exact K0 | exact K0 #[] | exact K0 (.cells #[] 0) #[]) (by repeat (with_reducible first | exact K0 | exact K0 _ | exact K0 _ _ | apply Blk.alloc | apply Blk.drew | apply Blk.drewN | apply Blk.set4_0 | apply Blk.set4_1 | apply Blk.set4_2 | apply Blk.set4_3 | (apply Blk.off; (first | assumption | omega | (simp; omega))) | fail)) hb; (try clear cK0_0 cK0_1 cK0_2 cK0_3 fK0 lK0 nK0 mK0); obtain ⟨cK0_0, cK0_1, cK0_2, cK0_3, fK0, lK0, nK0, mK0⟩ := Blk.all4 K0) | (go_at_call 12; with_reducible refine (ap.out _).mono ?_; rintro e w' ⟨rfl, hb⟩; have HB := bl_step (w := w) (by repeat (with_reducible first | exact HB | (refine bl_set ?_ (by omega)) | apply bl_alloc | apply bl_drew | apply bl_drewN | fail)) hb; have hzB := HB.size; have K0 := Blk.on (by first | exact K0 | exact K0 #[] | exact K0 (.cells #[] 0) #[]) (by repeat (with_reducible first | exact K0 | exact K0 _ | exact K0 _ _ | apply Blk.alloc | apply Blk.drew | apply Blk.drewN | apply Blk.set4_0 | apply Blk.set4_1 | apply Blk.set4_2 | apply Blk.set4_3 | (apply Blk.off; (first | assumption | omega | (simp; omega))) | fail)) hb; (try clear cK0_0 cK0_1 cK0_2 cK0_3 fK0 lK0 nK0 mK0); obtain ⟨cK0_0, cK0_1, cK0_2, cK0_3, fK0, lK0, nK0, mK0⟩ := Blk.all4 K0) | (go_at_call 13; with_reducible refine (ra.out _).mono ?_; rintro e w' ⟨rfl, hb⟩; have HB := bl_step (w := w) (by repeat (with_reducible first | exact HB | (refine bl_set ?_ (by omega)) | apply bl_alloc | apply bl_drew | apply bl_drewN | fail)) hb; have hzB := HB.size; have K0 := Blk.on (by first | exact K0 | exact K0 #[] | exact K0 (.cells #[] 0) #[]) (by repeat (with_reducible first | exact K0 | exact K0 _ | exact K0 _ _ | apply Blk.alloc | apply Blk.drew | apply Blk.drewN | apply Blk.set4_0 | apply Blk.set4_1 | apply Blk.set4_2 | apply Blk.set4_3 | (apply Blk.off; (first | assumption | omega | (simp; omega))) | fail)) hb; (try clear cK0_0 cK0_1 cK0_2 cK0_3 fK0 lK0 nK0 mK0); obtain ⟨cK0_0, cK0_1, cK0_2, cK0_3, fK0, lK0, nK0, mK0⟩ := Blk.all4 K0) | (go_at_call 14; with_reducible refine (enum_c _ _).mono ?_; rintro e w' ⟨rfl, rfl⟩) | (go_at_call 15; with_reducible refine (sm.out _).mono ?_; rintro e w' ⟨rfl, hb⟩; have HB := bl_step (w := w) (by repeat (with_reducible first | exact HB | (refine bl_set ?_ (by omega)) | apply bl_alloc | apply bl_drew | apply bl_drewN | fail)) hb; have hzB := HB.size; have K0 := Blk.on (by first | exact K0 | exact K0 #[] | exact K0 (.cells #[] 0) #[]) (by repeat (with_reducible first | exact K0 | exact K0 _ | exact K0 _ _ | apply Blk.alloc | apply Blk.drew | apply Blk.drewN | apply Blk.set4_0 | apply Blk.set4_1 | apply Blk.set4_2 | apply Blk.set4_3 | (apply Blk.off; (first | assumption | omega | (simp; omega))) | fail)) hb; (try clear cK0_0 cK0_1 cK0_2 cK0_3 fK0 lK0 nK0 mK0); obtain ⟨cK0_0, cK0_1, cK0_2, cK0_3, fK0, lK0, nK0, mK0⟩ := Blk.all4 K0) | (go_at_call 16; with_reducible refine (spoilo_none _).mono ?_; rintro e w' ⟨rfl, rfl⟩) | (go_at_call 17; with_reducible refine (awake_c _).mono ?_; rintro e w' ⟨rfl, hb⟩; have HB := bl_step (w := w) (by repeat (with_reducible first | exact HB | (refine bl_set ?_ (by omega)) | apply bl_alloc | apply bl_drew | apply bl_drewN | fail)) hb; have hzB := HB.size; have K0 := Blk.on (by first | exact K0 | exact K0 #[] | exact K0 (.cells #[] 0) #[]) (by repeat (with_reducible first | exact K0 | exact K0 _ | exact K0 _ _ | apply Blk.alloc | apply Blk.drew | apply Blk.drewN | apply Blk.set4_0 | apply Blk.set4_1 | apply Blk.set4_2 | apply Blk.set4_3 | (apply Blk.off; (first | assumption | omega | (simp; omega))) | fail)) hb; (try clear cK0_0 cK0_1 cK0_2 cK0_3 fK0 lK0 nK0 mK0); obtain ⟨cK0_0, cK0_1, cK0_2, cK0_3, fK0, lK0, nK0, mK0⟩ := Blk.all4 K0) | fail)
  go_ret
  exact ⟨rfl, HB⟩
set_option maxRecDepth 100000 in
set_option maxHeartbeats 6400000 in
theorem places_yes (f : ByteArray) (q s z m : Int) (w : World) (hf : f.size = 768) (hm : recMay q s z m = true) :
    Calls Try.prog 3 #[.string f, .agg #[.int .i64 q, .int .i64 s, .int .i64 z, .int .i64 m]] w fun e w' => e = .returned (.bool true) ∧ Below w.heap.size w w' := by
  have HB := Below.refl w.heap.size w
  have K0 := Blk.new w #[.int .i64 q, .int .i64 s, .int .i64 z, .int .i64 m] 23
  have nx := Lib.hid (fun W : World => next_c f W (by omega))
  have rn := Lib.hid (fun W : World => rnext_c f W (by omega))
  obtain ⟨a, b, hab⟩ := next_two f
  rw [hab] at nx rn
  have ap := Lib.hid (fun W : World => append_yes f q s z m W hf hm)
  have ra := Lib.hid (fun W : World => rappend_yes f q s z m W hf hm)
  unfold appY at ap ra
  obtain ⟨hl1, hl2⟩ := app_len f q s z m
  have ML := Lib.hid (app_may f q s z m)
  obtain ⟨n, hn⟩ : ∃ n, (appL f q s z m).length = n := ⟨_, rfl⟩
  rw [hn] at ap ra hl1 hl2
  have HN := Lib.hid hn
  clear hab hf hm hn
  generalize appL f q s z m = OL at *
  go_enter Try.func3, Try.ntmps3
  go_upto_region 3 with (first | (go_at_call 10; with_reducible refine (nx.out _).mono ?_; rintro e w' ⟨rfl, hb⟩; have HB := bl_step (w := w) (by repeat (with_reducible first | exact HB | (refine bl_set ?_ (by omega)) | apply bl_alloc | apply bl_drew | apply bl_drewN | fail)) hb; have hzB := HB.size; have K0 := Blk.on (by first | exact K0 | exact K0 #[] | exact K0 (.cells #[] 0) #[]) (by repeat (with_reducible first | exact K0 | exact K0 _ | exact K0 _ _ | apply Blk.alloc | apply Blk.drew | apply Blk.drewN | apply Blk.set4_0 | apply Blk.set4_1 | apply Blk.set4_2 | apply Blk.set4_3 | (apply Blk.off; (first | assumption | omega | (simp; omega))) | fail)) hb; (try clear cK0_0 cK0_1 cK0_2 cK0_3 fK0 lK0 nK0 mK0); obtain ⟨cK0_0, cK0_1, cK0_2, cK0_3, fK0, lK0, nK0, mK0⟩ := Blk.all4 K0) | (go_at_call 11; with_reducible refine (rn.out _).mono ?_; rintro e w' ⟨rfl, hb⟩; have HB := bl_step (w := w) (by repeat (with_reducible first | exact HB | (refine bl_set ?_ (by omega)) | apply bl_alloc | apply bl_drew | apply bl_drewN | fail)) hb; have hzB := HB.size; have K0 := Blk.on (by first | exact K0 | exact K0 #[] | exact K0 (.cells #[] 0) #[]) (by repeat (with_reducible first | exact K0 | exact K0 _ | exact K0 _ _ | apply Blk.alloc | apply Blk.drew | apply Blk.drewN | apply Blk.set4_0 | apply Blk.set4_1 | apply Blk.set4_2 | apply Blk.set4_3 | (apply Blk.off; (first | assumption | omega | (simp; omega))) | fail)) hb; (try clear cK0_0 cK0_1 cK0_2 cK0_3 fK0 lK0 nK0 mK0); obtain ⟨cK0_0, cK0_1, cK0_2, cK0_3, fK0, lK0, nK0, mK0⟩ := Blk.all4 K0) | fail)
  go_upto_region 4 with (first | (go_at_call 12; (with_reducible refine (ap.out _).mono ?_); rintro e w3 ⟨A, c, rfl, O3, hb3⟩) | fail)
  have HB3 := bl_step HB hb3
  have R0 := Lib.hid (lies_own encOp_len O3 HN.out)
  obtain ⟨g, rfl, hg0, hnc, hcm⟩ := own_open O3 (by omega)
  have hgw : w.heap.size ≤ g := Nat.le_trans hzB hg0
  have O3h := Lib.hid O3
  have d0 := cb hb3 cK0_0
  have d1 := cb hb3 cK0_1
  have d2 := cb hb3 cK0_2
  have d3 := cb hb3 cK0_3
  clear O3 hb3 HB hzB K0 cK0_0 cK0_1 cK0_2 cK0_3 fK0 lK0 nK0 mK0 hb
  go_upto_region 5 with (first | (go_at_call 13; (with_reducible refine (ra.out _).mono ?_); rintro e w4 ⟨B, d, rfl, O4, hb4⟩) | fail)
  have HB4 := bl_step HB3 hb4
  have O5 := Lib.hid (own_below O3h.out hb4)
  have RA := Lib.hid (row_of (R0.out.below hb4) (by rw [HN.out]; omega) ML.out)
  have RB := Lib.hid (row_of (lies_own encOp_len O4 HN.out) (by rw [HN.out]; omega) ML.out)
  have sm := Lib.hid (same_c (some ⟨g, 0, none⟩) B c d n n OL OL w4 RA.out RB.out HN.out HN.out)
  rw [show decide (OL = OL) = true by simp] at sm
  clear O4 hb4 HB3 d0 d1 d2 d3 R0 O3h RA RB
  go_wp2_with (first | (go_at_call 14; with_reducible refine (enum_c _ _).mono ?_; rintro e w' ⟨rfl, rfl⟩) | (go_at_call 15; (with_reducible refine sm.out.mono ?_); rintro e w5 ⟨rfl, hb5⟩) | (go_at_call 16; (with_reducible refine (spoilo_c g c n _ OL _ (own_below O5.out hb5) HN.out hnc hcm).mono ?_); rintro e w6 ⟨rfl, hg6⟩) | (go_at_call 17; (with_reducible refine (awake_c _).mono ?_); rintro e w7 ⟨rfl, hb7⟩) | fail)
  go_ret
  exact ⟨rfl, bl_step (bl_grown (bl_step HB4 hb5) hg6 (fun q hq => by injection hq with hq; omega)) hb7⟩
theorem places_w (f : ByteArray) (q s z m : Int) (w : World) (h : f.size ≤ 9223372036854775807) :
    Calls Try.prog 3 #[.string f, .agg #[.int .i64 q, .int .i64 s, .int .i64 z, .int .i64 m]] w fun e w' => e = .returned (.bool true) ∧ Below w.heap.size w w' := by
  by_cases hh : f.size = 768 ∧ recMay q s z m = true
  · exact places_yes f q s z m w hh.1 hh.2
  · exact places_no f q s z m w h hh
end Go.Proofs.Ytimnhdmpfndeaaa.Pl
end
