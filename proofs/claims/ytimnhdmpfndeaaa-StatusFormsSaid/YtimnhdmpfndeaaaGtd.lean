/- Layer 19: is the law awake. -/
import Derived.Test.YtimnhdmpfndeaaaDlb
import Derived.Test.YtimnhdmpfndeaaaGtb
import Derived.Test.YtimnhdmpfndeaaaKitb
namespace Go.Proofs.Ytimnhdmpfndeaaa.Dv
open Go.RowKit Go.Proofs.Ytimnhdmpfndeaaa.Kt Go.Proofs.Ytimnhdmpfndeaaa.Lw Go.Proofs.Ytimnhdmpfndeaaa.St Go.Proofs.Ytimnhdmpfndeaaa.Nm Go.Proofs.Ytimnhdmpfndeaaa.Es Go.Proofs.Ytimnhdmpfndeaaa.By Go.Proofs.Ytimnhdmpfndeaaa.En Go.Proofs.Ytimnhdmpfndeaaa.Jr Go.Proofs.Ytimnhdmpfndeaaa.Im Go.Proofs.Ytimnhdmpfndeaaa.Sl Go.Proofs.Ytimnhdmpfndeaaa.Gr Go.Proofs.Ytimnhdmpfndeaaa.Ops Go.Proofs.Ytimnhdmpfndeaaa.Ch Go.Proofs.Ytimnhdmpfndeaaa.Fl Go.Proofs.Ytimnhdmpfndeaaa.Pl
set_option linter.unusedVariables false
set_option linter.unusedSimpArgs false
attribute [local irreducible] gotB goodB Cr.crcB nQ nS nZ nM placeB wholeB
attribute [local go_sem high] eqAns
def t32 : ByteArray := ⟨#[48, 49, 50, 51, 52, 53, 54, 55, 56, 57, 97, 98, 99, 100, 101, 102, 48, 49, 50, 51, 52, 53, 54, 55, 56, 57, 97, 98, 99, 100, 101, 102]⟩
theorem may_mk {d : DS} (h1 : 0 ≤ d.st ∧ d.st ≤ 7) (h2 : 0 ≤ d.su ∧ d.su ≤ 6) (h3 : 0 ≤ d.nx ∧ d.nx ≤ 16) (h4 : 0 ≤ d.go ∧ d.go ≤ 288) (h5 : 0 ≤ d.sl ∧ d.sl ≤ 1) (h6 : d.ops.length ≤ 768) (h7 : MayL d.ops) : d.may = true := by
  have ha : d.ops.any (fun o => !opMay o) = false := by
    rw [List.any_eq_false]
    intro o ho
    simp [(h7 o ho).1]
  simp only [DS.may, devMay, rngB, ha]
  simp
  omega
theorem blank_act : activeO (fullB 768) = none := active_none fun x hx => by rw [blank_scan] at hx; simp at hx
theorem blank_other : otherN (fullB 768) = 0 := by simp only [otherN, blank_act]
theorem blank_free : freeO (fullB 768) 0 = some 0 := by
  unfold freeO freeFrom
  rw [show 4 * 0 = 0 from rfl, blank_place (by decide), if_pos rfl]
theorem blank_max : maxL (scanL (fullB 768)) = 0 := max_nil blank_scan
theorem blank_rec {s z : Int} (hs : rngB s 0 1 = true) (hz : rngB z 1 288 = true) : recE (fullB 768) s z = 0 := by
  have h : ¬ maxL (scanL (fullB 768)) = 1048576 := by rw [blank_max]; decide
  simp [recE, recOk, full_size, hs, hz, h]
theorem blank_app (q s z m : Int) : (appL (fullB 768) q s z m).length = 6 := by
  have hh : homeN (fullB 768) = 0 := home_none blank_act
  have e : headL (fullB 768) = [] := by simp only [headL, hh, blank_free]
  unfold appL
  rw [e, List.nil_append, words24_len (whole_size q s z m)]
def sentL : List OpV := erL 0 ++ wordsL (192 : Int) t32
theorem sent_len : sentL.length = 11 := by
  unfold sentL
  rw [List.length_append]
  rfl
theorem sent_may : MayL sentL := by
  have h := begin_may (s := 0) (t := t32) (by decide) (by decide) (by decide)
  exact h
theorem sent_downM : downM (fullB 768) 0 t32 = ⟨1, 0, 1, 32, 0, sentL⟩ := by
  unfold downM
  rw [blank_other]
  rfl
theorem blank_both {d : DS} (h : d.may = true) : bothB (fullB 768) d = true := by simp [bothB, full_size, h]
theorem zero_may : DS.zero.may = true := may_mk (by decide) (by decide) (by decide) (by decide) (by decide) (by decide) (fun o h => by simp [DS.zero] at h)
theorem sent_row {w w' : World} {A : Option Addr} (h : Own w' w.heap.size A sentL) : Row w' A sentL := h.1
set_option maxRecDepth 100000 in
set_option maxHeartbeats 6400000 in
theorem sent_c (w : World) : Calls Try.prog 28 #[] w fun e w' => (∃ A c, e = .returned (.agg #[.int .i64 1, .int .i64 0, .int .i64 1, .int .i64 32, .int .i64 0, .slice A 11 c]) ∧ Row w' A sentL) ∧ Below w.heap.size w w' := by
  have HB := Below.refl w.heap.size w
  have K0 := Blk.new w #[.int .i64 0, .int .i64 0, .int .i64 0, .int .i64 0, .int .i64 0, .slice none 0 0] 61
  have bl := Lib.hid (fun W : World => blank_c W)
  have dn : Hid (∀ W : World, Calls Try.prog 52 #[.string (fullB 768), .agg #[.int .i64 0, .int .i64 0, .int .i64 0, .int .i64 0, .int .i64 0, .slice none 0 0], .int .i64 0, .string t32] W fun e w' => (∃ A c, e = .returned (.tuple #[.agg #[.int .i64 1, .int .i64 0, .int .i64 1, .int .i64 32, .int .i64 0, .slice A 11 c], .int .i64 0]) ∧ Own w' W.heap.size A sentL) ∧ Below W.heap.size W w') := Lib.hid (fun W => by
    have hok : downOk (fullB 768) DS.zero 0 t32 = true := by
      simp only [downOk, full_size, zero_may]
      decide
    refine (rdown_0m (fullB 768) DS.zero 0 t32 none 0 0 W (by rw [full_size]; decide) Row.none rfl (by decide) hok rfl (by decide) rfl).mono ?_
    rintro e w' ⟨⟨A, n, c, h1, h2, h3⟩, h4⟩
    rw [show (DS.zero).su = 0 from rfl, sent_downM] at h1 h2 h3
    have hn : n = 11 := by rw [← h2]; exact sent_len
    subst hn
    exact ⟨⟨A, c, h1, h3⟩, h4⟩)
  have ht : t32 = ⟨#[48, 49, 50, 51, 52, 53, 54, 55, 56, 57, 97, 98, 99, 100, 101, 102, 48, 49, 50, 51, 52, 53, 54, 55, 56, 57, 97, 98, 99, 100, 101, 102]⟩ := rfl
  rw [ht] at dn
  clear ht
  generalize fullB 768 = F at *
  go_enter Try.func28, Try.ntmps28
  go_wp2_with (first | (go_at_call 24; with_reducible refine (bl.out _).mono ?_; rintro e w' ⟨rfl, hb⟩; have HB := bl_step (w := w) (by repeat (with_reducible first | exact HB | (refine bl_set ?_ (by omega)) | apply bl_alloc | apply bl_drew | apply bl_drewN | fail)) hb; have hzB := HB.size; have K0 := Blk.on (by first | exact K0 | exact K0 #[] | exact K0 (.cells #[] 0) #[] | exact K0 #[] #[]) (by repeat (with_reducible first | exact K0 | exact K0 _ | exact K0 _ _ | apply Blk.alloc | apply Blk.drew | apply Blk.drewN | apply Blk.set6_0 | apply Blk.set6_1 | apply Blk.set6_2 | apply Blk.set6_3 | apply Blk.set6_4 | apply Blk.set6_5 | (apply Blk.off; (first | assumption | omega | (simp; omega))) | fail)) hb; (try clear cK0_0 cK0_1 cK0_2 cK0_3 cK0_4 cK0_5 fK0 lK0 nK0 mK0); obtain ⟨cK0_0, cK0_1, cK0_2, cK0_3, cK0_4, cK0_5, fK0, lK0, nK0, mK0⟩ := Blk.all6 K0) | (go_at_call 53; with_reducible refine (rnew_c _).mono ?_; rintro e w' ⟨rfl, hb⟩; have HB := bl_step (w := w) (by repeat (with_reducible first | exact HB | (refine bl_set ?_ (by omega)) | apply bl_alloc | apply bl_drew | apply bl_drewN | fail)) hb; have hzB := HB.size; have K0 := Blk.on (by first | exact K0 | exact K0 #[] | exact K0 (.cells #[] 0) #[] | exact K0 #[] #[]) (by repeat (with_reducible first | exact K0 | exact K0 _ | exact K0 _ _ | apply Blk.alloc | apply Blk.drew | apply Blk.drewN | apply Blk.set6_0 | apply Blk.set6_1 | apply Blk.set6_2 | apply Blk.set6_3 | apply Blk.set6_4 | apply Blk.set6_5 | (apply Blk.off; (first | assumption | omega | (simp; omega))) | fail)) hb; (try clear cK0_0 cK0_1 cK0_2 cK0_3 cK0_4 cK0_5 fK0 lK0 nK0 mK0); obtain ⟨cK0_0, cK0_1, cK0_2, cK0_3, cK0_4, cK0_5, fK0, lK0, nK0, mK0⟩ := Blk.all6 K0) | (go_at_call 52; (with_reducible refine (dn.out _).mono ?_); rintro e w1 ⟨⟨A, c, rfl, HO⟩, hb⟩; have HO := HO.mono (base' := w.heap.size + 1) (by omega); have HB := bl_step (w := w) (by repeat (with_reducible first | exact HB | (refine bl_set ?_ (by omega)) | apply bl_alloc | apply bl_drew | apply bl_drewN | fail)) hb; have hzB := HB.size; have K0 := Blk.on (by first | exact K0 | exact K0 #[] | exact K0 (.cells #[] 0) #[] | exact K0 #[] #[]) (by repeat (with_reducible first | exact K0 | exact K0 _ | exact K0 _ _ | apply Blk.alloc | apply Blk.drew | apply Blk.drewN | apply Blk.set6_0 | apply Blk.set6_1 | apply Blk.set6_2 | apply Blk.set6_3 | apply Blk.set6_4 | apply Blk.set6_5 | (apply Blk.off; (first | assumption | omega | (simp; omega))) | fail)) hb; (try clear cK0_0 cK0_1 cK0_2 cK0_3 cK0_4 cK0_5 fK0 lK0 nK0 mK0); obtain ⟨cK0_0, cK0_1, cK0_2, cK0_3, cK0_4, cK0_5, fK0, lK0, nK0, mK0⟩ := Blk.all6 K0; have K1 := Blk.new w1 #[.int .i64 1, .int .i64 0, .int .i64 1, .int .i64 32, .int .i64 0, .slice A 11 c] 61) | fail)
  refine body_gen1 (g1 := w.heap.size) (cs1 := #[.int .i64 1, .int .i64 0, .int .i64 1, .int .i64 32, .int .i64 0, .slice A 11 c]) (t1 := 61) (A := A) (xs := sentL) (w := w) (by repeat (with_reducible first | exact K0 | apply Blk.alloc | apply Blk.drew | apply Blk.set6_0 | apply Blk.set6_1 | apply Blk.set6_2 | apply Blk.set6_3 | apply Blk.set6_4 | apply Blk.set6_5 | (apply Blk.off; (first | assumption | omega | (simp; omega))) | fail)) (by (refine Own.mono (base := w.heap.size + 1) ?_ (by omega)); (refine Own.below ?_ (bl_alloc (Below.refl _ _) _)); (repeat (with_reducible refine Own.set ?_ (by dsimp only; omega) _)); exact HO) (by repeat (with_reducible first | exact Below.refl _ _ | assumption | (refine bl_set ?_ (by omega)) | apply bl_alloc | apply bl_drewN | apply bl_drew | (refine bl_step ?_ (by assumption)) | fail)) ?_
  intro wf L1 HOf HBf
  obtain ⟨e0, e1, e2, e3, e4, e5, _⟩ := Blk.all6 L1
  exact bodyPost_ret (v := .agg #[.int .i64 1, .int .i64 0, .int .i64 1, .int .i64 32, .int .i64 0, .slice A 11 c]) (by simp [results, Try.results28, go_sem, e0, e1, e2, e3, e4, e5]) rfl ⟨⟨A, c, rfl, HOf.1⟩, HBf⟩
theorem get1 (W : World) (A : Option Addr) (c : Nat) (hl : Row W A sentL) : Calls Try.prog 29 #[.string (fullB 768), .agg #[.int .i64 1, .int .i64 0, .int .i64 1, .int .i64 32, .int .i64 0, .slice A 11 c]] W fun e w' => (∃ A' c', e = .returned (.tuple #[.agg #[.int .i64 2, .int .i64 0, .int .i64 1, .int .i64 32, .int .i64 0, .slice A' 11 c'], .agg #[.int .i64 0, .int .i64 11, .int .i64 2], .int .i64 0]) ∧ Row w' A' sentL) ∧ Below W.heap.size W w' := by
  have hm : (⟨1, 0, 1, 32, 0, sentL⟩ : DS).may = true := may_mk (by decide) (by decide) (by decide) (by decide) (by decide) (by rw [sent_len]; decide) sent_may
  have hy := get_yes (blank_both hm)
  have hne : ¬ sentL = [] := fun e => by have := sent_len; rw [e] at this; simp at this
  have hd : statD (fullB 768) ⟨1, 0, 1, 32, 0, sentL⟩ = ⟨2, 0, 1, 32, 0, sentL⟩ := by simp [statD, hne]
  refine (get_c (fullB 768) ⟨1, 0, 1, 32, 0, sentL⟩ A c 11 W (by rw [full_size]; decide) hl sent_len).mono ?_
  rw [hy.1, hy.2, hd]
  rintro e w' ⟨⟨A', n, c', h1, h2, h3⟩, h4⟩
  have hn : n = 11 := by rw [← h2]; exact sent_len
  subst hn
  exact ⟨⟨A', c', h1, h3.1⟩, h4⟩
theorem get2 (W : World) : Calls Try.prog 29 #[.string (fullB 768), .agg #[.int .i64 4, .int .i64 0, .int .i64 1, .int .i64 32, .int .i64 0, .slice none 0 0]] W fun e w' => (∃ A' c', e = .returned (.tuple #[.agg #[.int .i64 5, .int .i64 0, .int .i64 1, .int .i64 32, .int .i64 0, .slice A' 6 c'], .agg #[.int .i64 0, .int .i64 6, .int .i64 5], .int .i64 0])) ∧ Below W.heap.size W w' := by
  have hm : (⟨4, 0, 1, 32, 0, []⟩ : DS).may = true := may_mk (by decide) (by decide) (by decide) (by decide) (by decide) (by decide) (fun o h => by simp at h)
  have hy := get_yes (blank_both hm)
  have hd : statD (fullB 768) ⟨4, 0, 1, 32, 0, []⟩ = ⟨5, 0, 1, 32, 0, commitL (fullB 768) ⟨4, 0, 1, 32, 0, []⟩⟩ := by
    have hr := blank_rec (s := 0) (z := 32) (by decide) (by decide)
    simp [statD, commitD, hr]
  refine (get_c (fullB 768) ⟨4, 0, 1, 32, 0, []⟩ none 0 0 W (by rw [full_size]; decide) Row.none rfl).mono ?_
  rw [hy.1, hy.2, hd]
  rintro e w' ⟨⟨A', n, c', h1, h2, h3⟩, h4⟩
  have hn : n = 6 := by rw [← h2]; exact blank_app _ _ _ _
  subst hn
  exact ⟨⟨A', c', h1⟩, h4⟩
theorem get3 (W : World) : Calls Try.prog 29 #[.string (fullB 768), .agg #[.int .i64 0, .int .i64 0, .int .i64 0, .int .i64 0, .int .i64 0, .slice none 0 0]] W fun e w' => (∃ A' c', e = .returned (.tuple #[.agg #[.int .i64 0, .int .i64 0, .int .i64 0, .int .i64 0, .int .i64 0, .slice A' 0 c'], .agg #[.int .i64 0, .int .i64 0, .int .i64 0], .int .i64 0])) ∧ Below W.heap.size W w' := by
  have hy := get_yes (blank_both zero_may)
  have hd : statD (fullB 768) DS.zero = DS.zero := by simp [statD, DS.zero]
  refine (get_c (fullB 768) DS.zero none 0 0 W (by rw [full_size]; decide) Row.none rfl).mono ?_
  rw [hy.1, hy.2, hd]
  rintro e w' ⟨⟨A', n, c', h1, h2, h3⟩, h4⟩
  have hn : n = 0 := by rw [← h2]; rfl
  subst hn
  exact ⟨⟨A', c', h1⟩, h4⟩
theorem get4 (W : World) : Calls Try.prog 29 #[.string ⟨#[]⟩, .agg #[.int .i64 4, .int .i64 0, .int .i64 1, .int .i64 32, .int .i64 0, .slice none 0 0]] W fun e w' => (∃ A' c', e = .returned (.tuple #[.agg #[.int .i64 0, .int .i64 0, .int .i64 0, .int .i64 0, .int .i64 0, .slice A' 0 c'], .agg #[.int .i64 0, .int .i64 0, .int .i64 0], .int .i64 1900])) ∧ Below W.heap.size W w' := by
  have hn : bothB ⟨#[]⟩ ⟨4, 0, 1, 32, 0, []⟩ = false := by simp [bothB]; intro h; exact absurd h (by decide)
  have hy := get_no hn
  refine (get_c ⟨#[]⟩ ⟨4, 0, 1, 32, 0, []⟩ none 0 0 W (by decide) Row.none rfl).mono ?_
  rw [hy.1, hy.2]
  rintro e w' ⟨⟨A', n, c', h1, h2, h3⟩, h4⟩
  have hn : n = 0 := by rw [← h2]; rfl
  subst hn
  exact ⟨⟨A', c', h1⟩, h4⟩
set_option maxRecDepth 100000 in
set_option maxHeartbeats 12800000 in
theorem awake19_c (w : World) : Calls Try.prog 27 #[] w fun e w' => e = .returned (.bool true) ∧ Below w.heap.size w w' := by
  have HB := Below.refl w.heap.size w
  have bl := Lib.hid (fun W : World => blank_c W)
  have g1 := Lib.hid get1
  have g2 := Lib.hid get2
  have g3 := Lib.hid get3
  have g4 := Lib.hid get4
  have z0 := Lib.hid (show ([] : List OpV).length = 0 from rfl)
  generalize fullB 768 = F at *
  go_enter Try.func27, Try.ntmps27
  go_upto_region 3 with (first | (go_at_call 24; with_reducible refine (bl.out _).mono ?_; rintro e w' ⟨rfl, hb⟩; have HB := bl_step (w := w) (by repeat (with_reducible first | exact HB | (refine bl_set ?_ (by omega)) | apply bl_alloc | apply bl_drew | apply bl_drewN | fail)) hb; have hzB := HB.size) | (go_at_call 28; (with_reducible refine (sent_c _).mono ?_); rintro e w1 ⟨⟨A, c, rfl, R0⟩, hb⟩; have HB := bl_step (w := w) (by repeat (with_reducible first | exact HB | (refine bl_set ?_ (by omega)) | apply bl_alloc | apply bl_drew | apply bl_drewN | fail)) hb; have hzB := HB.size) | (go_at_call 29; (with_reducible refine (g1.out _ _ _ R0).mono ?_); rintro e w2 ⟨⟨A1, c1, rfl, R1⟩, hb⟩; have HB := bl_step (w := w) (by repeat (with_reducible first | exact HB | (refine bl_set ?_ (by omega)) | apply bl_alloc | apply bl_drew | apply bl_drewN | fail)) hb; have hzB := HB.size; have K1 := fun cs => Blk.new w2 cs 61; have K2 := fun o cs => Blk.new1 w2 o cs 64) | fail)
  go_upto_region 6 with (first | (go_at_call 28; (with_reducible refine (sent_c _).mono ?_); rintro e w3 ⟨⟨A3, c3, rfl, R3⟩, hb⟩; have HB := bl_step (w := w) (by repeat (with_reducible first | exact HB | (refine bl_set ?_ (by omega)) | apply bl_alloc | apply bl_drew | apply bl_drewN | fail)) hb; have hzB := HB.size; have K1 := Blk.on (by first | exact K1 | exact K1 #[] | exact K1 (.cells #[] 0) #[] | exact K1 #[] #[]) (by repeat (with_reducible first | exact K1 | exact K1 _ | exact K1 _ _ | apply Blk.alloc | apply Blk.drew | apply Blk.drewN | apply Blk.set6_0 | apply Blk.set6_1 | apply Blk.set6_2 | apply Blk.set6_3 | apply Blk.set6_4 | apply Blk.set6_5 | (apply Blk.off; (first | assumption | omega | (simp; omega))) | fail)) hb; (try clear cK1_0 cK1_1 cK1_2 cK1_3 cK1_4 cK1_5 fK1 lK1 nK1 mK1); obtain ⟨cK1_0, cK1_1, cK1_2, cK1_3, cK1_4, cK1_5, fK1, lK1, nK1, mK1⟩ := Blk.all6 K1; have K2 := Blk.on (by first | exact K2 | exact K2 #[] | exact K2 (.cells #[] 0) #[] | exact K2 #[] #[]) (by repeat (with_reducible first | exact K2 | exact K2 _ | exact K2 _ _ | apply Blk.alloc | apply Blk.drew | apply Blk.drewN | apply Blk.set3_0 | apply Blk.set3_1 | apply Blk.set3_2 | (apply Blk.off; (first | assumption | omega | (simp; omega))) | fail)) hb; (try clear cK2_0 cK2_1 cK2_2 fK2 lK2 nK2 mK2); obtain ⟨cK2_0, cK2_1, cK2_2, fK2, lK2, nK2, mK2⟩ := Blk.all3 K2; have K3 := fun cs => Blk.new w3 cs 61) | fail)
  go_upto_region 7 with (first | (go_at_call 29; (with_reducible refine (g2.out _).mono ?_); rintro e w4 ⟨⟨A4, c4, rfl⟩, hb⟩; have HB := bl_step (w := w) (by repeat (with_reducible first | exact HB | (refine bl_set ?_ (by omega)) | apply bl_alloc | apply bl_drew | apply bl_drewN | fail)) hb; have hzB := HB.size; have K1 := Blk.on (by first | exact K1 | exact K1 #[] | exact K1 (.cells #[] 0) #[] | exact K1 #[] #[]) (by repeat (with_reducible first | exact K1 | exact K1 _ | exact K1 _ _ | apply Blk.alloc | apply Blk.drew | apply Blk.drewN | apply Blk.set6_0 | apply Blk.set6_1 | apply Blk.set6_2 | apply Blk.set6_3 | apply Blk.set6_4 | apply Blk.set6_5 | (apply Blk.off; (first | assumption | omega | (simp; omega))) | fail)) hb; (try clear cK1_0 cK1_1 cK1_2 cK1_3 cK1_4 cK1_5 fK1 lK1 nK1 mK1); obtain ⟨cK1_0, cK1_1, cK1_2, cK1_3, cK1_4, cK1_5, fK1, lK1, nK1, mK1⟩ := Blk.all6 K1; have K2 := Blk.on (by first | exact K2 | exact K2 #[] | exact K2 (.cells #[] 0) #[] | exact K2 #[] #[]) (by repeat (with_reducible first | exact K2 | exact K2 _ | exact K2 _ _ | apply Blk.alloc | apply Blk.drew | apply Blk.drewN | apply Blk.set3_0 | apply Blk.set3_1 | apply Blk.set3_2 | (apply Blk.off; (first | assumption | omega | (simp; omega))) | fail)) hb; (try clear cK2_0 cK2_1 cK2_2 fK2 lK2 nK2 mK2); obtain ⟨cK2_0, cK2_1, cK2_2, fK2, lK2, nK2, mK2⟩ := Blk.all3 K2; have K3 := Blk.on (by first | exact K3 | exact K3 #[] | exact K3 (.cells #[] 0) #[] | exact K3 #[] #[]) (by repeat (with_reducible first | exact K3 | exact K3 _ | exact K3 _ _ | apply Blk.alloc | apply Blk.drew | apply Blk.drewN | apply Blk.set6_0 | apply Blk.set6_1 | apply Blk.set6_2 | apply Blk.set6_3 | apply Blk.set6_4 | apply Blk.set6_5 | (apply Blk.off; (first | assumption | omega | (simp; omega))) | fail)) hb; (try clear cK3_0 cK3_1 cK3_2 cK3_3 cK3_4 cK3_5 fK3 lK3 nK3 mK3); obtain ⟨cK3_0, cK3_1, cK3_2, cK3_3, cK3_4, cK3_5, fK3, lK3, nK3, mK3⟩ := Blk.all6 K3; have K4 := fun cs => Blk.new w4 cs 61; have K5 := fun o cs => Blk.new1 w4 o cs 64) | fail)
  go_upto_region 8 with (first | (go_at_call 29; (with_reducible refine (g3.out _).mono ?_); rintro e w5 ⟨⟨A5, c5, rfl⟩, hb⟩; have HB := bl_step (w := w) (by repeat (with_reducible first | exact HB | (refine bl_set ?_ (by omega)) | apply bl_alloc | apply bl_drew | apply bl_drewN | fail)) hb; have hzB := HB.size; have K1 := Blk.on (by first | exact K1 | exact K1 #[] | exact K1 (.cells #[] 0) #[] | exact K1 #[] #[]) (by repeat (with_reducible first | exact K1 | exact K1 _ | exact K1 _ _ | apply Blk.alloc | apply Blk.drew | apply Blk.drewN | apply Blk.set6_0 | apply Blk.set6_1 | apply Blk.set6_2 | apply Blk.set6_3 | apply Blk.set6_4 | apply Blk.set6_5 | (apply Blk.off; (first | assumption | omega | (simp; omega))) | fail)) hb; (try clear cK1_0 cK1_1 cK1_2 cK1_3 cK1_4 cK1_5 fK1 lK1 nK1 mK1); obtain ⟨cK1_0, cK1_1, cK1_2, cK1_3, cK1_4, cK1_5, fK1, lK1, nK1, mK1⟩ := Blk.all6 K1; have K2 := Blk.on (by first | exact K2 | exact K2 #[] | exact K2 (.cells #[] 0) #[] | exact K2 #[] #[]) (by repeat (with_reducible first | exact K2 | exact K2 _ | exact K2 _ _ | apply Blk.alloc | apply Blk.drew | apply Blk.drewN | apply Blk.set3_0 | apply Blk.set3_1 | apply Blk.set3_2 | (apply Blk.off; (first | assumption | omega | (simp; omega))) | fail)) hb; (try clear cK2_0 cK2_1 cK2_2 fK2 lK2 nK2 mK2); obtain ⟨cK2_0, cK2_1, cK2_2, fK2, lK2, nK2, mK2⟩ := Blk.all3 K2; have K3 := Blk.on (by first | exact K3 | exact K3 #[] | exact K3 (.cells #[] 0) #[] | exact K3 #[] #[]) (by repeat (with_reducible first | exact K3 | exact K3 _ | exact K3 _ _ | apply Blk.alloc | apply Blk.drew | apply Blk.drewN | apply Blk.set6_0 | apply Blk.set6_1 | apply Blk.set6_2 | apply Blk.set6_3 | apply Blk.set6_4 | apply Blk.set6_5 | (apply Blk.off; (first | assumption | omega | (simp; omega))) | fail)) hb; (try clear cK3_0 cK3_1 cK3_2 cK3_3 cK3_4 cK3_5 fK3 lK3 nK3 mK3); obtain ⟨cK3_0, cK3_1, cK3_2, cK3_3, cK3_4, cK3_5, fK3, lK3, nK3, mK3⟩ := Blk.all6 K3; have K4 := Blk.on (by first | exact K4 | exact K4 #[] | exact K4 (.cells #[] 0) #[] | exact K4 #[] #[]) (by repeat (with_reducible first | exact K4 | exact K4 _ | exact K4 _ _ | apply Blk.alloc | apply Blk.drew | apply Blk.drewN | apply Blk.set6_0 | apply Blk.set6_1 | apply Blk.set6_2 | apply Blk.set6_3 | apply Blk.set6_4 | apply Blk.set6_5 | (apply Blk.off; (first | assumption | omega | (simp; omega))) | fail)) hb; (try clear cK4_0 cK4_1 cK4_2 cK4_3 cK4_4 cK4_5 fK4 lK4 nK4 mK4); obtain ⟨cK4_0, cK4_1, cK4_2, cK4_3, cK4_4, cK4_5, fK4, lK4, nK4, mK4⟩ := Blk.all6 K4; have K5 := Blk.on (by first | exact K5 | exact K5 #[] | exact K5 (.cells #[] 0) #[] | exact K5 #[] #[]) (by repeat (with_reducible first | exact K5 | exact K5 _ | exact K5 _ _ | apply Blk.alloc | apply Blk.drew | apply Blk.drewN | apply Blk.set3_0 | apply Blk.set3_1 | apply Blk.set3_2 | (apply Blk.off; (first | assumption | omega | (simp; omega))) | fail)) hb; (try clear cK5_0 cK5_1 cK5_2 fK5 lK5 nK5 mK5); obtain ⟨cK5_0, cK5_1, cK5_2, fK5, lK5, nK5, mK5⟩ := Blk.all3 K5; have K6 := fun cs => Blk.new w5 cs 61; have K7 := fun o cs => Blk.new1 w5 o cs 64) | fail)
  go_upto_region 9 with (first | (go_at_call 29; (with_reducible refine (g4.out _).mono ?_); rintro e w6 ⟨⟨A6, c6, rfl⟩, hb⟩; have HB := bl_step (w := w) (by repeat (with_reducible first | exact HB | (refine bl_set ?_ (by omega)) | apply bl_alloc | apply bl_drew | apply bl_drewN | fail)) hb; have hzB := HB.size; have K1 := Blk.on (by first | exact K1 | exact K1 #[] | exact K1 (.cells #[] 0) #[] | exact K1 #[] #[]) (by repeat (with_reducible first | exact K1 | exact K1 _ | exact K1 _ _ | apply Blk.alloc | apply Blk.drew | apply Blk.drewN | apply Blk.set6_0 | apply Blk.set6_1 | apply Blk.set6_2 | apply Blk.set6_3 | apply Blk.set6_4 | apply Blk.set6_5 | (apply Blk.off; (first | assumption | omega | (simp; omega))) | fail)) hb; (try clear cK1_0 cK1_1 cK1_2 cK1_3 cK1_4 cK1_5 fK1 lK1 nK1 mK1); obtain ⟨cK1_0, cK1_1, cK1_2, cK1_3, cK1_4, cK1_5, fK1, lK1, nK1, mK1⟩ := Blk.all6 K1; have K2 := Blk.on (by first | exact K2 | exact K2 #[] | exact K2 (.cells #[] 0) #[] | exact K2 #[] #[]) (by repeat (with_reducible first | exact K2 | exact K2 _ | exact K2 _ _ | apply Blk.alloc | apply Blk.drew | apply Blk.drewN | apply Blk.set3_0 | apply Blk.set3_1 | apply Blk.set3_2 | (apply Blk.off; (first | assumption | omega | (simp; omega))) | fail)) hb; (try clear cK2_0 cK2_1 cK2_2 fK2 lK2 nK2 mK2); obtain ⟨cK2_0, cK2_1, cK2_2, fK2, lK2, nK2, mK2⟩ := Blk.all3 K2; have K3 := Blk.on (by first | exact K3 | exact K3 #[] | exact K3 (.cells #[] 0) #[] | exact K3 #[] #[]) (by repeat (with_reducible first | exact K3 | exact K3 _ | exact K3 _ _ | apply Blk.alloc | apply Blk.drew | apply Blk.drewN | apply Blk.set6_0 | apply Blk.set6_1 | apply Blk.set6_2 | apply Blk.set6_3 | apply Blk.set6_4 | apply Blk.set6_5 | (apply Blk.off; (first | assumption | omega | (simp; omega))) | fail)) hb; (try clear cK3_0 cK3_1 cK3_2 cK3_3 cK3_4 cK3_5 fK3 lK3 nK3 mK3); obtain ⟨cK3_0, cK3_1, cK3_2, cK3_3, cK3_4, cK3_5, fK3, lK3, nK3, mK3⟩ := Blk.all6 K3; have K4 := Blk.on (by first | exact K4 | exact K4 #[] | exact K4 (.cells #[] 0) #[] | exact K4 #[] #[]) (by repeat (with_reducible first | exact K4 | exact K4 _ | exact K4 _ _ | apply Blk.alloc | apply Blk.drew | apply Blk.drewN | apply Blk.set6_0 | apply Blk.set6_1 | apply Blk.set6_2 | apply Blk.set6_3 | apply Blk.set6_4 | apply Blk.set6_5 | (apply Blk.off; (first | assumption | omega | (simp; omega))) | fail)) hb; (try clear cK4_0 cK4_1 cK4_2 cK4_3 cK4_4 cK4_5 fK4 lK4 nK4 mK4); obtain ⟨cK4_0, cK4_1, cK4_2, cK4_3, cK4_4, cK4_5, fK4, lK4, nK4, mK4⟩ := Blk.all6 K4; have K5 := Blk.on (by first | exact K5 | exact K5 #[] | exact K5 (.cells #[] 0) #[] | exact K5 #[] #[]) (by repeat (with_reducible first | exact K5 | exact K5 _ | exact K5 _ _ | apply Blk.alloc | apply Blk.drew | apply Blk.drewN | apply Blk.set3_0 | apply Blk.set3_1 | apply Blk.set3_2 | (apply Blk.off; (first | assumption | omega | (simp; omega))) | fail)) hb; (try clear cK5_0 cK5_1 cK5_2 fK5 lK5 nK5 mK5); obtain ⟨cK5_0, cK5_1, cK5_2, fK5, lK5, nK5, mK5⟩ := Blk.all3 K5; have K6 := Blk.on (by first | exact K6 | exact K6 #[] | exact K6 (.cells #[] 0) #[] | exact K6 #[] #[]) (by repeat (with_reducible first | exact K6 | exact K6 _ | exact K6 _ _ | apply Blk.alloc | apply Blk.drew | apply Blk.drewN | apply Blk.set6_0 | apply Blk.set6_1 | apply Blk.set6_2 | apply Blk.set6_3 | apply Blk.set6_4 | apply Blk.set6_5 | (apply Blk.off; (first | assumption | omega | (simp; omega))) | fail)) hb; (try clear cK6_0 cK6_1 cK6_2 cK6_3 cK6_4 cK6_5 fK6 lK6 nK6 mK6); obtain ⟨cK6_0, cK6_1, cK6_2, cK6_3, cK6_4, cK6_5, fK6, lK6, nK6, mK6⟩ := Blk.all6 K6; have K7 := Blk.on (by first | exact K7 | exact K7 #[] | exact K7 (.cells #[] 0) #[] | exact K7 #[] #[]) (by repeat (with_reducible first | exact K7 | exact K7 _ | exact K7 _ _ | apply Blk.alloc | apply Blk.drew | apply Blk.drewN | apply Blk.set3_0 | apply Blk.set3_1 | apply Blk.set3_2 | (apply Blk.off; (first | assumption | omega | (simp; omega))) | fail)) hb; (try clear cK7_0 cK7_1 cK7_2 fK7 lK7 nK7 mK7); obtain ⟨cK7_0, cK7_1, cK7_2, fK7, lK7, nK7, mK7⟩ := Blk.all3 K7) | fail)
  go_wp2_with (first | (go_at_call 14; with_reducible refine (enum_c _ _).mono ?_; rintro e w' ⟨rfl, rfl⟩) | (go_at_call 30; with_reducible refine (sameR_c _ _ _ _ _ _ _ _ _ _ _ _ _ Row.none Row.none z0.out z0.out).mono ?_; rintro e w' ⟨rfl, hb⟩; have HB := bl_step (w := w) (by repeat (with_reducible first | exact HB | (refine bl_set ?_ (by omega)) | apply bl_alloc | apply bl_drew | apply bl_drewN | fail)) hb; have hzB := HB.size; have K4 := Blk.on (by first | exact K4 | exact K4 #[] | exact K4 (.cells #[] 0) #[] | exact K4 #[] #[]) (by repeat (with_reducible first | exact K4 | exact K4 _ | exact K4 _ _ | apply Blk.alloc | apply Blk.drew | apply Blk.drewN | apply Blk.set6_0 | apply Blk.set6_1 | apply Blk.set6_2 | apply Blk.set6_3 | apply Blk.set6_4 | apply Blk.set6_5 | (apply Blk.off; (first | assumption | omega | (simp; omega))) | fail)) hb; (try clear cK4_0 cK4_1 cK4_2 cK4_3 cK4_4 cK4_5 fK4 lK4 nK4 mK4); obtain ⟨cK4_0, cK4_1, cK4_2, cK4_3, cK4_4, cK4_5, fK4, lK4, nK4, mK4⟩ := Blk.all6 K4; have K5 := Blk.on (by first | exact K5 | exact K5 #[] | exact K5 (.cells #[] 0) #[] | exact K5 #[] #[]) (by repeat (with_reducible first | exact K5 | exact K5 _ | exact K5 _ _ | apply Blk.alloc | apply Blk.drew | apply Blk.drewN | apply Blk.set3_0 | apply Blk.set3_1 | apply Blk.set3_2 | (apply Blk.off; (first | assumption | omega | (simp; omega))) | fail)) hb; (try clear cK5_0 cK5_1 cK5_2 fK5 lK5 nK5 mK5); obtain ⟨cK5_0, cK5_1, cK5_2, fK5, lK5, nK5, mK5⟩ := Blk.all3 K5; have K6 := Blk.on (by first | exact K6 | exact K6 #[] | exact K6 (.cells #[] 0) #[] | exact K6 #[] #[]) (by repeat (with_reducible first | exact K6 | exact K6 _ | exact K6 _ _ | apply Blk.alloc | apply Blk.drew | apply Blk.drewN | apply Blk.set6_0 | apply Blk.set6_1 | apply Blk.set6_2 | apply Blk.set6_3 | apply Blk.set6_4 | apply Blk.set6_5 | (apply Blk.off; (first | assumption | omega | (simp; omega))) | fail)) hb; (try clear cK6_0 cK6_1 cK6_2 cK6_3 cK6_4 cK6_5 fK6 lK6 nK6 mK6); obtain ⟨cK6_0, cK6_1, cK6_2, cK6_3, cK6_4, cK6_5, fK6, lK6, nK6, mK6⟩ := Blk.all6 K6; have K7 := Blk.on (by first | exact K7 | exact K7 #[] | exact K7 (.cells #[] 0) #[] | exact K7 #[] #[]) (by repeat (with_reducible first | exact K7 | exact K7 _ | exact K7 _ _ | apply Blk.alloc | apply Blk.drew | apply Blk.drewN | apply Blk.set3_0 | apply Blk.set3_1 | apply Blk.set3_2 | (apply Blk.off; (first | assumption | omega | (simp; omega))) | fail)) hb; (try clear cK7_0 cK7_1 cK7_2 fK7 lK7 nK7 mK7); obtain ⟨cK7_0, cK7_1, cK7_2, fK7, lK7, nK7, mK7⟩ := Blk.all3 K7) | fail)
  go_ret
  exact ⟨rfl, (by repeat (with_reducible first | exact Below.refl _ _ | assumption | (refine bl_set ?_ (by omega)) | apply bl_alloc | apply bl_drewN | apply bl_drew | (refine bl_step ?_ (by assumption)) | fail))⟩
end Go.Proofs.Ytimnhdmpfndeaaa.Dv
