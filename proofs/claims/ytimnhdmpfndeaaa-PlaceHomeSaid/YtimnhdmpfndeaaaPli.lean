/- Layer 8: the law's held flash: the walk; steps that may be. -/
import Derived.Test.YtimnhdmpfndeaaaPlh
import Derived.Test.YtimnhdmpfndeaaaOpq
namespace Go.Proofs.Ytimnhdmpfndeaaa.Pl
open Go.RowKit Go.Proofs.Ytimnhdmpfndeaaa.Kt Go.Proofs.Ytimnhdmpfndeaaa.Lw Go.Proofs.Ytimnhdmpfndeaaa.St Go.Proofs.Ytimnhdmpfndeaaa.Nm Go.Proofs.Ytimnhdmpfndeaaa.By Go.Proofs.Ytimnhdmpfndeaaa.En Go.Proofs.Ytimnhdmpfndeaaa.Jr Go.Proofs.Ytimnhdmpfndeaaa.Im Go.Proofs.Ytimnhdmpfndeaaa.Sl Go.Proofs.Ytimnhdmpfndeaaa.Gr Go.Proofs.Ytimnhdmpfndeaaa.Ops Go.Proofs.Ytimnhdmpfndeaaa.Ch Go.Proofs.Ytimnhdmpfndeaaa.Fl
set_option linter.unusedVariables false
set_option linter.unusedSimpArgs false
attribute [local irreducible] gotB goodB Cr.crcB nQ nS nZ nM placeB wholeB lit1 lit2 entN sumN
theorem word_size {t : ByteArray} {i : Nat} (h : i < (t.size + 3) / 4) : (wordB t i).size = 4 := by
  unfold wordB
  rw [ByteArray.size_append, full_size, ByteArray.size_extract]
  omega
/-- all may be done. -/
def MayL (os : List OpV) : Prop := ∀ o ∈ os, opMay o = true ∧ OpOk o
theorem MayL.app {a b : List OpV} (h : MayL a) (k : MayL b) : MayL (a ++ b) := by
  intro o ho
  rcases List.mem_append.1 ho with h1 | h1
  · exact h o h1
  · exact k o h1
theorem words_may {a : Int} {t : ByteArray} (a0 : 0 ≤ a) (a4 : a % 4 = 0) (ha : a + (t.size : Int) ≤ 768) : MayL (wordsL a t) := by
  intro o ho
  simp only [wordsL, wordsN, List.mem_map, List.mem_range] at ho
  obtain ⟨i, hi, rfl⟩ := ho
  have hz := word_size hi
  refine ⟨?_, ?_, ?_, ?_⟩
  · have h1 : rngB (a + 4 * (i : Int)) 0 764 = true := by simp [rngB]; omega
    have h2 : ((a + 4 * (i : Int)) % 4 == 0) = true := by simp; omega
    simp [opMay, wordV, bgnB, h1, h2, hz]
    exact a4
  · simp only [wordV]; omega
  · simp only [wordV]; omega
  · simp only [wordV]; omega
theorem spot_ok (f : ByteArray) : 0 ≤ spotN f ∧ spotN f % 4 = 0 ∧ spotN f ≤ 168 := by
  have hl := home_lt f
  unfold spotN
  cases ho : freeO f (homeN f) with
  | none => simp only; omega
  | some k =>
    have := freeO_lt ho
    simp only
    omega
theorem head_may (f : ByteArray) : MayL (headL f) := by
  have hl := home_lt f
  intro o ho
  unfold headL at ho
  cases hf : freeO f (homeN f) with
  | some k => rw [hf] at ho; simp at ho
  | none =>
    rw [hf] at ho
    simp at ho
    subst ho
    refine ⟨?_, ?_, ?_, ?_⟩
    · have h1 : ((⟨#[]⟩ : ByteArray).toList.isEmpty) = true := by decide +kernel
      simp [opMay, rngB, h1]
      omega
    · simp only; omega
    · simp only; omega
    · simp only; decide
theorem app_may (f : ByteArray) (q s z m : Int) : MayL (appL f q s z m) := by
  have h := spot_ok f
  have hz := whole_size q s z m
  exact (head_may f).app (words_may h.1 h.2.1 (by omega))
theorem all_size {f : ByteArray} : ∀ {os : List OpV}, f.size = 768 → MayL os → (allB f os).size = 768
  | [], h, _ => h
  | o :: os, h, hm => all_size (f := doB f o) (os := os) (do_size h (hm o (by simp)).1) (fun p hp => hm p (by simp [hp]))
theorem all_next {f : ByteArray} {os : List OpV} {i : Nat} {o : OpV} (h : os[i]? = some o) : allB f (os.take (i + 1)) = doB (allB f (os.take i)) o := by
  rw [List.take_add_one, h]
  exact all_snoc _ _ _
theorem MayL.take {os : List OpV} (h : MayL os) (i : Nat) : MayL (os.take i) := fun o ho => h o (List.mem_of_mem_take ho)
theorem row_of {w : World} {A : Option Addr} {os : List OpV} (h : Lies encOp 3 w A os) (hl : os.length ≤ 1000) (hm : MayL os) : Row w A os := ⟨h, by omega, fun o ho => (hm o ho).2⟩
theorem words12_c (w : World) : Calls Try.prog 41 #[.int .i64 192, .string ⟨#[97, 98, 97, 98, 97, 98, 97, 98, 97, 98, 97, 98]⟩] w fun e w' => ∃ A c, e = .returned (.tuple #[.slice A 3 c, .int .i64 0]) ∧ w'.ownsRow w.heap.size 50 3 (.slice A 3 c) 3 ((wordsL 192 ababB).flatMap encOp) ∧ Below w.heap.size w w' :=
  rwords_c 192 ababB w (by decide) (by decide) (by decide)
set_option maxRecDepth 100000 in
set_option maxHeartbeats 12800000 in
theorem held_c (w : World) : Calls Try.prog 26 #[] w fun e w' => e = .returned (.string lit2) ∧ Below w.heap.size w w' := by
  have HB := Below.refl w.heap.size w
  have bl := Lib.hid (fun W : World => blank_c W)
  have wd := Lib.hid (fun W : World => words12_c W)
  have hz0 := full_size 768
  have M1 := Lib.hid (words_may (a := 192) (t := ababB) (by decide) (by decide) (by decide))
  have H1 := Lib.hid held1
  have ll := Lib.hid (show (wordsL 192 ababB).length = 3 from rfl)
  have rc := Lib.hid (fun W : World => rrec_c lit1 0 12 W (by rw [lit1_size]; decide))
  rw [rec_lit1.1, rec_lit1.2] at rc
  have ap := Lib.hid (fun W : World => rappend_yes lit1 1 0 12 sumN W lit1_size sum_may)
  have M2 := Lib.hid (app_may lit1 1 0 12 sumN)
  have H2 := Lib.hid held2
  have l2 := Lib.hid (show (appL lit1 1 0 12 sumN).length = 6 by rw [app_lit1, wordsN_len])
  have ap2 : Hid (∀ W : World, Calls Try.prog 13 #[.string lit1, .agg #[.int .i64 1, .int .i64 0, .int .i64 12, .int .i64 sumN]] W fun e w' => ∃ A c, e = .returned (.tuple #[.slice A 6 c, .int .i64 0]) ∧ w'.ownsRow W.heap.size 50 3 (.slice A 6 c) 6 ((appL lit1 1 0 12 sumN).flatMap encOp) ∧ Below W.heap.size W w') := Lib.hid (fun W => by
    refine (ap.out W).mono ?_
    rintro e w' ⟨A, c, h1, h2, h3⟩
    rw [l2.out] at h1 h2
    exact ⟨A, c, h1, h2, h3⟩)
  have zl1 := lit1_size
  clear ap
  generalize (wordsL 192 ababB) = O1 at *
  generalize (appL lit1 1 0 12 sumN) = O2 at *
  generalize fullB 768 = F0 at *
  generalize lit1 = F1 at *
  generalize lit2 = F2 at *
  go_enter Try.func26, Try.ntmps26
  go_wp2_with (first | (go_at_call 24; with_reducible refine (bl.out _).mono ?_; rintro e w' ⟨rfl, hb⟩; have HB := bl_step (w := w) (by repeat (with_reducible first | exact HB | (refine bl_set ?_ (by omega)) | apply bl_alloc | apply bl_drew | apply bl_drewN | fail)) hb; have hzB := HB.size) | (go_at_call 41; (with_reducible refine (wd.out _).mono ?_); rintro e w2 ⟨A, c, rfl, hown, hb2⟩) | fail)
  have HB2 := bl_step HB hb2
  have R1 := row_of (lies_own encOp_len hown ll.out) (by rw [ll.out]; decide) M1.out
  clear hown hb2 HB
  go_loopg [1, 4] 3 (fun gg s1 s4 wr => ∃ i : Nat, i ≤ 3 ∧ 3 - i ≤ gg ∧ s4 = .int .i64 i ∧ s1 = .string (allB F0 (O1.take i)) ∧ Aside (Below w.heap.size w wr) ∧ Aside (Row wr A O1))
  case atStart => exact ⟨0, by omega, by omega, rfl, rfl, HB2, R1⟩
  case round =>
    clear HB2 R1
    obtain ⟨i, hi, hg, rfl, rfl, BW, BR⟩ := hrel
    have HB := BW.out
    by_cases hlt : i < 3
    · obtain ⟨b, off, x, rfl, hbs, hx, hok, c0, c1, c2⟩ := BR.out.at_ (j := i) (by rw [ll.out]; exact hlt)
      have hmx := M1.out x (List.mem_of_getElem? hx)
      have hsz := all_size hz0 (M1.out.take i)
      have NX := Lib.hid (all_next (f := F0) hx)
      have dd := Lib.hid (fun W : World => rdo_c (allB F0 (O1.take i)) x W (by omega) hok)
      rw [do_yes hsz hmx.1] at dd
      have hi3 : (i : Int) < 3 := by omega
      have hi0 : (0 : Int) ≤ (i : Int) := by omega
      clear hx hok hmx hsz
      go_wp2_with (first | (go_at_call 21; (with_reducible refine (dd.out _).mono ?_); rintro e w3 ⟨rfl, hb3⟩) | fail)
      go_roundg (3 - (i + 1))
      case measure => omega
      case rel => exact ⟨i + 1, by omega, by omega, by go_num, (by rw [NX.out]), bl_step HB hb3, BR.out.below hb3⟩
    · obtain rfl : i = 3 := by omega
      have he : allB F0 (O1.take 3) = F1 := by
        rw [List.take_of_length_le (by rw [ll.out]; decide)]
        exact H1.out
      rw [he]
      clear he BR BW
      go_wp2_with (first | (go_at_call 19; with_reducible refine (rc.out _).mono ?_; rintro e w' ⟨rfl, hb⟩; have HB := bl_step (w := w) (by repeat (with_reducible first | exact HB | (refine bl_set ?_ (by omega)) | apply bl_alloc | apply bl_drew | apply bl_drewN | fail)) hb; have hzB := HB.size; have K1 := fun cs => Blk.new w' cs 23) | (go_at_call 13; (with_reducible refine (ap2.out _).mono ?_); rintro e w4 ⟨A4, c4, rfl, hown4, hb4⟩) | fail)
      have HB4 : Below w.heap.size w w4 := bl_step (w := w) (by repeat (with_reducible first | exact HB | apply bl_alloc | fail)) hb4
      have R2 := row_of (lies_own encOp_len hown4 l2.out) (by rw [l2.out]; decide) M2.out
      clear hown4 hb4 HB K1 hb hzB
      go_loopg [1, 7] 6 (fun gg s1 s7 wr => ∃ i : Nat, i ≤ 6 ∧ 6 - i ≤ gg ∧ s7 = .int .i64 i ∧ s1 = .string (allB F1 (O2.take i)) ∧ Aside (Below w.heap.size w wr) ∧ Aside (Row wr A4 O2))
      case atStart => exact ⟨0, by omega, by omega, rfl, rfl, HB4, R2⟩
      case round =>
        clear HB4 R2
        obtain ⟨i, hi, hg, rfl, rfl, BW, BR⟩ := hrel
        have HB := BW.out
        by_cases hlt : i < 6
        · obtain ⟨b, off, x, rfl, hbs, hx, hok, c0, c1, c2⟩ := BR.out.at_ (j := i) (by rw [l2.out]; exact hlt)
          have hmx := M2.out x (List.mem_of_getElem? hx)
          have hsz := all_size zl1 (M2.out.take i)
          have NX := Lib.hid (all_next (f := F1) hx)
          have dd := Lib.hid (fun W : World => rdo_c (allB F1 (O2.take i)) x W (by omega) hok)
          rw [do_yes hsz hmx.1] at dd
          have hi3 : (i : Int) < 6 := by omega
          have hi0 : (0 : Int) ≤ (i : Int) := by omega
          clear hx hok hmx hsz
          go_wp2_with (first | (go_at_call 21; (with_reducible refine (dd.out _).mono ?_); rintro e w3 ⟨rfl, hb3⟩) | fail)
          go_roundg (6 - (i + 1))
          case measure => omega
          case rel => exact ⟨i + 1, by omega, by omega, by go_num, (by rw [NX.out]), bl_step HB hb3, BR.out.below hb3⟩
        · obtain rfl : i = 6 := by omega
          have he : allB F1 (O2.take 6) = F2 := by
            rw [List.take_of_length_le (by rw [l2.out]; decide)]
            exact H2.out
          rw [he]
          clear he BR BW
          go_wp2_with fail
          go_ret
          exact ⟨rfl, HB⟩
end Go.Proofs.Ytimnhdmpfndeaaa.Pl
