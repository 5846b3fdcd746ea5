/- Layer 4: a text's record: the walks. -/
import Derived.Test.YtimnhdmpfndeaaaEne
namespace Go.Proofs.Ytimnhdmpfndeaaa.En
open Go.RowKit Go.Proofs.Ytimnhdmpfndeaaa.Kt Go.Proofs.Ytimnhdmpfndeaaa.Lw Go.Proofs.Ytimnhdmpfndeaaa.St Go.Proofs.Ytimnhdmpfndeaaa.Nm Go.Proofs.Ytimnhdmpfndeaaa.By
set_option linter.unusedVariables false
set_option linter.unusedSimpArgs false
set_option maxRecDepth 100000 in
set_option maxHeartbeats 6400000 in
theorem get_c (s : ByteArray) (w : World) : Calls Try.prog 57 #[.string s] w fun e w' => e = .returned (.tuple #[.agg (gotV s), .int .i64 (gotE s)]) ∧ Below w.heap.size w w' := by
  have HB := Below.refl w.heap.size w
  have K0 := Blk.new w #[.int .i64 0, .int .i64 0, .int .i64 0, .int .i64 0] 23
  by_cases hs : s.size = 24
  · have hcmp := Lib.hid (fun W : World => comp_c (s.extract 0 12) W (by rw [ex_size s 0 12 hs (by omega)]; decide))
    by_cases hc : compB (s.extract 0 12) = s.extract 12 24
    · have q1 := eqs_t hc
      have q2 : ((compB (s.extract 0 12)).toList != (s.extract 12 24).toList) = false := by rw [bne, q1]; rfl
      have e1 : (s.extract 0 4).size ≤ 4 := by rw [ex_size s 0 4 hs (by omega)]; decide
      have e2 : (s.extract 4 6).size ≤ 4 := by rw [ex_size s 4 6 hs (by omega)]; decide
      have e3 : (s.extract 6 8).size ≤ 4 := by rw [ex_size s 6 8 hs (by omega)]; decide
      have e4 : (s.extract 8 12).size ≤ 4 := by rw [ex_size s 8 12 hs (by omega)]; decide
      have mm := Lib.hid (fun W : World => recMay_c (nQ s) (nS s) (nZ s) (nM s) W)
      have HC := Lib.hid hc
      clear hc
      go_enter Try.func57, Try.ntmps57
      go_wp2_with fail
      obtain ⟨cK0_0, cK0_1, cK0_2, cK0_3, fK0, lK0, nK0, mK0⟩ := Blk.all4 K0
      have qK0_0 := fun s : Wld _ => Wld.cell cK0_0 s; have qK0_1 := fun s : Wld _ => Wld.cell cK0_1 s; have qK0_2 := fun s : Wld _ => Wld.cell cK0_2 s; have qK0_3 := fun s : Wld _ => Wld.cell cK0_3 s
      refine wld_lit (by kernel_rfl) (by kernel_rfl) ?_
      repeat (go_big_quiet_step (first | (go_at_call 62; with_reducible exact Wld.call (hcmp.out _)) | fail))
      refine wpQuiet_nil ?_; refine Wld.elim ?_; intro w' hb; clear qK0_0 qK0_1 qK0_2 qK0_3; have HB := bl_step (w := w) (by repeat (with_reducible first | exact HB | (refine bl_set ?_ (by omega)) | apply bl_alloc | apply bl_drew | apply bl_drewN | fail)) hb; have hzB := HB.size; have K0 := Blk.on (by first | exact K0 | exact K0 #[] | exact K0 (.cells #[] 0) #[]) (by repeat (with_reducible first | exact K0 | exact K0 _ | exact K0 _ _ | apply Blk.alloc | apply Blk.drew | apply Blk.drewN | apply Blk.set4_0 | apply Blk.set4_1 | apply Blk.set4_2 | apply Blk.set4_3 | (apply Blk.off; (first | assumption | omega | (simp; omega))) | fail)) hb; (try clear cK0_0 cK0_1 cK0_2 cK0_3 fK0 lK0 nK0 mK0); obtain ⟨cK0_0, cK0_1, cK0_2, cK0_3, fK0, lK0, nK0, mK0⟩ := Blk.all4 K0
      go_upto_region 3 with fail
      generalize w' = w1 at *
      go_cut [4] (fun v4 wc => ∃ g : Nat, v4 = .pointer (some ⟨g, 0, none⟩) ∧ w.heap.size < g ∧ Aside (Blk wc g #[.int .i64 (nQ s), .int .i64 (nS s), .int .i64 (nZ s), .int .i64 (nM s)] 23) ∧ Aside (Blk wc w.heap.size #[.int .i64 0, .int .i64 0, .int .i64 0, .int .i64 0] 23) ∧ Aside (Below w.heap.size w wc))
      case first =>
        go_region_held3 (fun W => Below w1.heap.size w1 W) (first | ((repeat (with_reducible first | exact Below.refl _ _ | assumption | apply bl_alloc | apply bl_drew | apply bl_drewN | (refine bl_setn ?_ (by assumption)) | (refine bl_step ?_ (by assumption)) | fail)); done) | fail) (first | (go_at_call 82; with_reducible refine (num_c _ _ (by assumption)).mono ?_; rintro e w' ⟨rfl, rfl⟩) | fail)
        all_goals (go_wp2_with fail; go_meet; exact ⟨_, rfl, K0.lt, (Blk.new _ _ _).drew, (K0.alloc _).drew, bl_drew (bl_alloc HB _)⟩)
      case rest =>
        clear K0 HB
        obtain ⟨g, rfl, hgg, BK1, BK0, BB⟩ := hcut
        have K0 := BK0.out
        have K1 : Blk wc g #[.int .i64 (nQ s), .int .i64 (nS s), .int .i64 (nZ s), .int .i64 (nM s)] 23 := BK1.out
        have HB := BB.out
        have hne : w.heap.size ≠ g := by omega
        have hne2 : g ≠ w.heap.size := by omega
        clear BK0 BK1 BB
        obtain ⟨cK0_0, cK0_1, cK0_2, cK0_3, fK0, lK0, nK0, mK0⟩ := Blk.all4 K0
        obtain ⟨cK1_0, cK1_1, cK1_2, cK1_3, fK1, lK1, nK1, mK1⟩ := Blk.all4 K1
        cases hm : recMay (nQ s) (nS s) (nZ s) (nM s)
        · have hg : gotB s = false := by simp [gotB, hm]
          rw [hm] at mm
          clear hm
          go_wp2_with (first | (go_at_call 60; with_reducible refine (mm.out _).mono ?_; rintro e w' ⟨rfl, hb⟩; have HB := bl_step (w := w) (by repeat (with_reducible first | exact HB | (refine bl_set ?_ (by omega)) | apply bl_alloc | apply bl_drew | apply bl_drewN | fail)) hb; have hzB := HB.size; have K0 := Blk.on (by first | exact K0 | exact K0 #[] | exact K0 (.cells #[] 0) #[]) (by repeat (with_reducible first | exact K0 | exact K0 _ | exact K0 _ _ | apply Blk.alloc | apply Blk.drew | apply Blk.drewN | apply Blk.set4_0 | apply Blk.set4_1 | apply Blk.set4_2 | apply Blk.set4_3 | (apply Blk.off; (first | assumption | omega | (simp; omega))) | fail)) hb; (try clear cK0_0 cK0_1 cK0_2 cK0_3 fK0 lK0 nK0 mK0); obtain ⟨cK0_0, cK0_1, cK0_2, cK0_3, fK0, lK0, nK0, mK0⟩ := Blk.all4 K0; have K1 := Blk.on (by first | exact K1 | exact K1 #[] | exact K1 (.cells #[] 0) #[]) (by repeat (with_reducible first | exact K1 | exact K1 _ | exact K1 _ _ | apply Blk.alloc | apply Blk.drew | apply Blk.drewN | apply Blk.set4_0 | apply Blk.set4_1 | apply Blk.set4_2 | apply Blk.set4_3 | (apply Blk.off; (first | assumption | omega | (simp; omega))) | fail)) hb; (try clear cK1_0 cK1_1 cK1_2 cK1_3 fK1 lK1 nK1 mK1); obtain ⟨cK1_0, cK1_1, cK1_2, cK1_3, fK1, lK1, nK1, mK1⟩ := Blk.all4 K1) | fail)
          exact bodyPost_ret (v := .tuple #[.agg #[.int .i64 0, .int .i64 0, .int .i64 0, .int .i64 0], .int .i64 400]) (by simp [results, Try.results57, go_sem, *]) rfl ⟨by simp [gotV, gotE, hg], (by repeat (with_reducible first | exact Below.refl _ _ | assumption | (refine bl_set ?_ (by omega)) | apply bl_alloc | apply bl_drewN | apply bl_drew | (refine bl_step ?_ (by assumption)) | fail))⟩
        · have hg : gotB s = true := by simp [gotB, hm, hs, HC.out]
          rw [hm] at mm
          clear hm
          go_wp2_with (first | (go_at_call 60; with_reducible refine (mm.out _).mono ?_; rintro e w' ⟨rfl, hb⟩; have HB := bl_step (w := w) (by repeat (with_reducible first | exact HB | (refine bl_set ?_ (by omega)) | apply bl_alloc | apply bl_drew | apply bl_drewN | fail)) hb; have hzB := HB.size; have K0 := Blk.on (by first | exact K0 | exact K0 #[] | exact K0 (.cells #[] 0) #[]) (by repeat (with_reducible first | exact K0 | exact K0 _ | exact K0 _ _ | apply Blk.alloc | apply Blk.drew | apply Blk.drewN | apply Blk.set4_0 | apply Blk.set4_1 | apply Blk.set4_2 | apply Blk.set4_3 | (apply Blk.off; (first | assumption | omega | (simp; omega))) | fail)) hb; (try clear cK0_0 cK0_1 cK0_2 cK0_3 fK0 lK0 nK0 mK0); obtain ⟨cK0_0, cK0_1, cK0_2, cK0_3, fK0, lK0, nK0, mK0⟩ := Blk.all4 K0; have K1 := Blk.on (by first | exact K1 | exact K1 #[] | exact K1 (.cells #[] 0) #[]) (by repeat (with_reducible first | exact K1 | exact K1 _ | exact K1 _ _ | apply Blk.alloc | apply Blk.drew | apply Blk.drewN | apply Blk.set4_0 | apply Blk.set4_1 | apply Blk.set4_2 | apply Blk.set4_3 | (apply Blk.off; (first | assumption | omega | (simp; omega))) | fail)) hb; (try clear cK1_0 cK1_1 cK1_2 cK1_3 fK1 lK1 nK1 mK1); obtain ⟨cK1_0, cK1_1, cK1_2, cK1_3, fK1, lK1, nK1, mK1⟩ := Blk.all4 K1) | fail)
          exact bodyPost_ret (v := .tuple #[.agg #[.int .i64 (nQ s), .int .i64 (nS s), .int .i64 (nZ s), .int .i64 (nM s)], .int .i64 0]) (by simp [results, Try.results57, go_sem, *]) rfl ⟨by simp [gotV, gotE, hg], (by repeat (with_reducible first | exact Below.refl _ _ | assumption | (refine bl_set ?_ (by omega)) | apply bl_alloc | apply bl_drewN | apply bl_drew | (refine bl_step ?_ (by assumption)) | fail))⟩
    · have q1 := eqs_f hc
      have q2 : ((compB (s.extract 0 12)).toList != (s.extract 12 24).toList) = true := by rw [bne, q1]; rfl
      have hg : gotB s = false := by simp [gotB, hc]
      clear hc
      go_enter Try.func57, Try.ntmps57
      go_wp2_with fail
      obtain ⟨cK0_0, cK0_1, cK0_2, cK0_3, fK0, lK0, nK0, mK0⟩ := Blk.all4 K0
      have qK0_0 := fun s : Wld _ => Wld.cell cK0_0 s; have qK0_1 := fun s : Wld _ => Wld.cell cK0_1 s; have qK0_2 := fun s : Wld _ => Wld.cell cK0_2 s; have qK0_3 := fun s : Wld _ => Wld.cell cK0_3 s
      refine wld_lit (by kernel_rfl) (by kernel_rfl) ?_
      repeat (go_big_quiet_step (first | (go_at_call 62; with_reducible exact Wld.call (hcmp.out _)) | fail))
      refine wpQuiet_nil ?_; refine Wld.elim ?_; intro w' hb; clear qK0_0 qK0_1 qK0_2 qK0_3; have HB := bl_step (w := w) (by repeat (with_reducible first | exact HB | (refine bl_set ?_ (by omega)) | apply bl_alloc | apply bl_drew | apply bl_drewN | fail)) hb; have hzB := HB.size; have K0 := Blk.on (by first | exact K0 | exact K0 #[] | exact K0 (.cells #[] 0) #[]) (by repeat (with_reducible first | exact K0 | exact K0 _ | exact K0 _ _ | apply Blk.alloc | apply Blk.drew | apply Blk.drewN | apply Blk.set4_0 | apply Blk.set4_1 | apply Blk.set4_2 | apply Blk.set4_3 | (apply Blk.off; (first | assumption | omega | (simp; omega))) | fail)) hb; (try clear cK0_0 cK0_1 cK0_2 cK0_3 fK0 lK0 nK0 mK0); obtain ⟨cK0_0, cK0_1, cK0_2, cK0_3, fK0, lK0, nK0, mK0⟩ := Blk.all4 K0
      go_wp2_with fail
      exact bodyPost_ret (v := .tuple #[.agg #[.int .i64 0, .int .i64 0, .int .i64 0, .int .i64 0], .int .i64 400]) (by simp [results, Try.results57, go_sem, *]) rfl ⟨by simp [gotV, gotE, hg], (by repeat (with_reducible first | exact Below.refl _ _ | assumption | (refine bl_set ?_ (by omega)) | apply bl_alloc | apply bl_drewN | apply bl_drew | (refine bl_step ?_ (by assumption)) | fail))⟩
  · have h : ((s.size : Int) != 24) = true := by rw [bne_iff_ne]; omega
    have hg : gotB s = false := by simp [gotB, hs]
    go_enter Try.func57, Try.ntmps57
    go_wp2_with fail
    obtain ⟨cK0_0, cK0_1, cK0_2, cK0_3, fK0, lK0, nK0, mK0⟩ := Blk.all4 K0
    have qK0_0 := fun s : Wld _ => Wld.cell cK0_0 s; have qK0_1 := fun s : Wld _ => Wld.cell cK0_1 s; have qK0_2 := fun s : Wld _ => Wld.cell cK0_2 s; have qK0_3 := fun s : Wld _ => Wld.cell cK0_3 s
    refine wld_lit (by kernel_rfl) (by kernel_rfl) ?_
    repeat (go_big_quiet_step (fail))
    refine wpQuiet_nil ?_; refine Wld.elim ?_; intro w' hb; clear qK0_0 qK0_1 qK0_2 qK0_3; have HB := bl_step (w := w) (by repeat (with_reducible first | exact HB | (refine bl_set ?_ (by omega)) | apply bl_alloc | apply bl_drew | apply bl_drewN | fail)) hb; have hzB := HB.size; have K0 := Blk.on (by first | exact K0 | exact K0 #[] | exact K0 (.cells #[] 0) #[]) (by repeat (with_reducible first | exact K0 | exact K0 _ | exact K0 _ _ | apply Blk.alloc | apply Blk.drew | apply Blk.drewN | apply Blk.set4_0 | apply Blk.set4_1 | apply Blk.set4_2 | apply Blk.set4_3 | (apply Blk.off; (first | assumption | omega | (simp; omega))) | fail)) hb; (try clear cK0_0 cK0_1 cK0_2 cK0_3 fK0 lK0 nK0 mK0); obtain ⟨cK0_0, cK0_1, cK0_2, cK0_3, fK0, lK0, nK0, mK0⟩ := Blk.all4 K0
    go_wp2_with fail
    exact bodyPost_ret (v := .tuple #[.agg #[.int .i64 0, .int .i64 0, .int .i64 0, .int .i64 0], .int .i64 400]) (by simp [results, Try.results57, go_sem, *]) rfl ⟨by simp [gotV, gotE, hg], (by repeat (with_reducible first | exact Below.refl _ _ | assumption | (refine bl_set ?_ (by omega)) | apply bl_alloc | apply bl_drewN | apply bl_drew | (refine bl_step ?_ (by assumption)) | fail))⟩
set_option maxRecDepth 100000 in
set_option maxHeartbeats 6400000 in
theorem rget_c (s : ByteArray) (w : World) : Calls Try.prog 59 #[.string s] w fun e w' => e = .returned (.tuple #[.agg (gotV s), .int .i64 (gotE s)]) ∧ Below w.heap.size w w' := by
  have HB := Below.refl w.heap.size w
  have K0 := Blk.new w #[.int .i64 0, .int .i64 0, .int .i64 0, .int .i64 0] 23
  by_cases hs : s.size = 24
  · have e1 : (s.extract 0 4).size ≤ 4 := by rw [ex_size s 0 4 hs (by omega)]; decide
    have e2 : (s.extract 4 6).size ≤ 4 := by rw [ex_size s 4 6 hs (by omega)]; decide
    have e3 : (s.extract 6 8).size ≤ 4 := by rw [ex_size s 6 8 hs (by omega)]; decide
    have e4 : (s.extract 8 12).size ≤ 4 := by rw [ex_size s 8 12 hs (by omega)]; decide
    have e0 := byt_at s 4 (by omega)
    have e5 := byt_wrap s 4
    have mm := Lib.hid (fun W : World => rput_c (nQ s) (byt s 4) (nZ s) (nM s) W)
    go_enter Try.func59, Try.ntmps59
    have HB := bl_alloc HB (.cells #[.int .i64 0, .int .i64 0, .int .i64 0, .int .i64 0] 23)
    go_upto_region 3 with fail
    generalize w.alloc (.cells #[.int .i64 0, .int .i64 0, .int .i64 0, .int .i64 0] 23) = w1 at *
    go_cut [4] (fun v4 wc => ∃ g : Nat, v4 = .pointer (some ⟨g, 0, none⟩) ∧ w.heap.size < g ∧ Aside (Blk wc g #[.int .i64 (nQ s), .int .i64 (byt s 4), .int .i64 (nZ s), .int .i64 (nM s)] 23) ∧ Aside (Blk wc w.heap.size #[.int .i64 0, .int .i64 0, .int .i64 0, .int .i64 0] 23) ∧ Aside (Below w.heap.size w wc))
    case first =>
      go_region_held3 (fun W => Below w1.heap.size w1 W) (first | ((repeat (with_reducible first | exact Below.refl _ _ | assumption | apply bl_alloc | apply bl_drew | apply bl_drewN | (refine bl_setn ?_ (by assumption)) | (refine bl_step ?_ (by assumption)) | fail)); done) | fail) (first | (go_at_call 83; with_reducible refine (of_c _ _ (by assumption)).mono ?_; rintro e w' ⟨rfl, rfl⟩) | fail)
      all_goals (go_wp2_with fail; go_meet; exact ⟨_, rfl, K0.lt, (Blk.new _ _ _).drew, (K0.alloc _).drew, bl_drew (bl_alloc HB _)⟩)
    case rest =>
      clear K0 HB
      obtain ⟨g, rfl, hgg, BK1, BK0, BB⟩ := hcut
      have K0 := BK0.out
      have K1 : Blk wc g #[.int .i64 (nQ s), .int .i64 (byt s 4), .int .i64 (nZ s), .int .i64 (nM s)] 23 := BK1.out
      have HB := BB.out
      have hne : w.heap.size ≠ g := by omega
      have hne2 : g ≠ w.heap.size := by omega
      clear BK0 BK1 BB
      obtain ⟨cK0_0, cK0_1, cK0_2, cK0_3, fK0, lK0, nK0, mK0⟩ := Blk.all4 K0
      obtain ⟨cK1_0, cK1_1, cK1_2, cK1_3, fK1, lK1, nK1, mK1⟩ := Blk.all4 K1
      rcases ref_got hs with ⟨hr, hw, hg, hn⟩ | ⟨hr, hw, hg⟩ | ⟨hr, hg⟩
      · have p1 : putB (nQ s) (byt s 4) (nZ s) (nM s) = s ∧ putE (nQ s) (byt s 4) (nZ s) (nM s) = 0 := by simp [putB, putE, hr, hw]
        rw [p1.1, p1.2] at mm
        have HN := Lib.hid hn
        clear p1 hr hw hn
        go_wp2_with (first | (go_at_call 25; with_reducible refine (mm.out _).mono ?_; rintro e w' ⟨rfl, hb⟩; have HB := bl_step (w := w) (by repeat (with_reducible first | exact HB | (refine bl_set ?_ (by omega)) | apply bl_alloc | apply bl_drew | apply bl_drewN | fail)) hb; have hzB := HB.size; have K0 := Blk.on (by first | exact K0 | exact K0 #[] | exact K0 (.cells #[] 0) #[]) (by repeat (with_reducible first | exact K0 | exact K0 _ | exact K0 _ _ | apply Blk.alloc | apply Blk.drew | apply Blk.drewN | apply Blk.set4_0 | apply Blk.set4_1 | apply Blk.set4_2 | apply Blk.set4_3 | (apply Blk.off; (first | assumption | omega | (simp; omega))) | fail)) hb; (try clear cK0_0 cK0_1 cK0_2 cK0_3 fK0 lK0 nK0 mK0); obtain ⟨cK0_0, cK0_1, cK0_2, cK0_3, fK0, lK0, nK0, mK0⟩ := Blk.all4 K0; have K1 := Blk.on (by first | exact K1 | exact K1 #[] | exact K1 (.cells #[] 0) #[]) (by repeat (with_reducible first | exact K1 | exact K1 _ | exact K1 _ _ | apply Blk.alloc | apply Blk.drew | apply Blk.drewN | apply Blk.set4_0 | apply Blk.set4_1 | apply Blk.set4_2 | apply Blk.set4_3 | (apply Blk.off; (first | assumption | omega | (simp; omega))) | fail)) hb; (try clear cK1_0 cK1_1 cK1_2 cK1_3 fK1 lK1 nK1 mK1); obtain ⟨cK1_0, cK1_1, cK1_2, cK1_3, fK1, lK1, nK1, mK1⟩ := Blk.all4 K1) | fail)
        exact bodyPost_ret (v := .tuple #[.agg #[.int .i64 (nQ s), .int .i64 (byt s 4), .int .i64 (nZ s), .int .i64 (nM s)], .int .i64 0]) (by simp [results, Try.results59, go_sem, *]) rfl ⟨by simp [gotV, gotE, hg, HN.out], (by repeat (with_reducible first | exact Below.refl _ _ | assumption | (refine bl_set ?_ (by omega)) | apply bl_alloc | apply bl_drewN | apply bl_drew | (refine bl_step ?_ (by assumption)) | fail))⟩
      · have p1 : putB (nQ s) (byt s 4) (nZ s) (nM s) = wholeB (nQ s) (byt s 4) (nZ s) (nM s) ∧ putE (nQ s) (byt s 4) (nZ s) (nM s) = 0 := by simp [putB, putE, hr]
        rw [p1.1, p1.2] at mm
        have q1 := eqs_f hw
        have q2 : ((wholeB (nQ s) (byt s 4) (nZ s) (nM s)).toList != s.toList) = true := by rw [bne, q1]; rfl
        clear p1 hr hw
        go_wp2_with (first | (go_at_call 25; with_reducible refine (mm.out _).mono ?_; rintro e w' ⟨rfl, hb⟩; have HB := bl_step (w := w) (by repeat (with_reducible first | exact HB | (refine bl_set ?_ (by omega)) | apply bl_alloc | apply bl_drew | apply bl_drewN | fail)) hb; have hzB := HB.size; have K0 := Blk.on (by first | exact K0 | exact K0 #[] | exact K0 (.cells #[] 0) #[]) (by repeat (with_reducible first | exact K0 | exact K0 _ | exact K0 _ _ | apply Blk.alloc | apply Blk.drew | apply Blk.drewN | apply Blk.set4_0 | apply Blk.set4_1 | apply Blk.set4_2 | apply Blk.set4_3 | (apply Blk.off; (first | assumption | omega | (simp; omega))) | fail)) hb; (try clear cK0_0 cK0_1 cK0_2 cK0_3 fK0 lK0 nK0 mK0); obtain ⟨cK0_0, cK0_1, cK0_2, cK0_3, fK0, lK0, nK0, mK0⟩ := Blk.all4 K0; have K1 := Blk.on (by first | exact K1 | exact K1 #[] | exact K1 (.cells #[] 0) #[]) (by repeat (with_reducible first | exact K1 | exact K1 _ | exact K1 _ _ | apply Blk.alloc | apply Blk.drew | apply Blk.drewN | apply Blk.set4_0 | apply Blk.set4_1 | apply Blk.set4_2 | apply Blk.set4_3 | (apply Blk.off; (first | assumption | omega | (simp; omega))) | fail)) hb; (try clear cK1_0 cK1_1 cK1_2 cK1_3 fK1 lK1 nK1 mK1); obtain ⟨cK1_0, cK1_1, cK1_2, cK1_3, fK1, lK1, nK1, mK1⟩ := Blk.all4 K1) | fail)
        exact bodyPost_ret (v := .tuple #[.agg #[.int .i64 0, .int .i64 0, .int .i64 0, .int .i64 0], .int .i64 400]) (by simp [results, Try.results59, go_sem, *]) rfl ⟨by simp [gotV, gotE, hg], (by repeat (with_reducible first | exact Below.refl _ _ | assumption | (refine bl_set ?_ (by omega)) | apply bl_alloc | apply bl_drewN | apply bl_drew | (refine bl_step ?_ (by assumption)) | fail))⟩
      · have p1 : putB (nQ s) (byt s 4) (nZ s) (nM s) = ⟨#[]⟩ ∧ putE (nQ s) (byt s 4) (nZ s) (nM s) = 400 := by simp [putB, putE, hr]
        rw [p1.1, p1.2] at mm
        clear p1 hr
        go_wp2_with (first | (go_at_call 25; with_reducible refine (mm.out _).mono ?_; rintro e w' ⟨rfl, hb⟩; have HB := bl_step (w := w) (by repeat (with_reducible first | exact HB | (refine bl_set ?_ (by omega)) | apply bl_alloc | apply bl_drew | apply bl_drewN | fail)) hb; have hzB := HB.size; have K0 := Blk.on (by first | exact K0 | exact K0 #[] | exact K0 (.cells #[] 0) #[]) (by repeat (with_reducible first | exact K0 | exact K0 _ | exact K0 _ _ | apply Blk.alloc | apply Blk.drew | apply Blk.drewN | apply Blk.set4_0 | apply Blk.set4_1 | apply Blk.set4_2 | apply Blk.set4_3 | (apply Blk.off; (first | assumption | omega | (simp; omega))) | fail)) hb; (try clear cK0_0 cK0_1 cK0_2 cK0_3 fK0 lK0 nK0 mK0); obtain ⟨cK0_0, cK0_1, cK0_2, cK0_3, fK0, lK0, nK0, mK0⟩ := Blk.all4 K0; have K1 := Blk.on (by first | exact K1 | exact K1 #[] | exact K1 (.cells #[] 0) #[]) (by repeat (with_reducible first | exact K1 | exact K1 _ | exact K1 _ _ | apply Blk.alloc | apply Blk.drew | apply Blk.drewN | apply Blk.set4_0 | apply Blk.set4_1 | apply Blk.set4_2 | apply Blk.set4_3 | (apply Blk.off; (first | assumption | omega | (simp; omega))) | fail)) hb; (try clear cK1_0 cK1_1 cK1_2 cK1_3 fK1 lK1 nK1 mK1); obtain ⟨cK1_0, cK1_1, cK1_2, cK1_3, fK1, lK1, nK1, mK1⟩ := Blk.all4 K1) | fail)
        exact bodyPost_ret (v := .tuple #[.agg #[.int .i64 0, .int .i64 0, .int .i64 0, .int .i64 0], .int .i64 400]) (by simp [results, Try.results59, go_sem, *]) rfl ⟨by simp [gotV, gotE, hg], (by repeat (with_reducible first | exact Below.refl _ _ | assumption | (refine bl_set ?_ (by omega)) | apply bl_alloc | apply bl_drewN | apply bl_drew | (refine bl_step ?_ (by assumption)) | fail))⟩
  · have h : ((s.size : Int) != 24) = true := by rw [bne_iff_ne]; omega
    have hg : gotB s = false := by simp [gotB, hs]
    go_enter Try.func59, Try.ntmps59
    go_wp2_with fail
    exact bodyPost_ret (v := .tuple #[.agg #[.int .i64 0, .int .i64 0, .int .i64 0, .int .i64 0], .int .i64 400]) (by simp [results, Try.results59, go_sem, *]) rfl ⟨by simp [gotV, gotE, hg], (by repeat (with_reducible first | exact Below.refl _ _ | assumption | (refine bl_set ?_ (by omega)) | apply bl_alloc | apply bl_drewN | apply bl_drew | (refine bl_step ?_ (by assumption)) | fail))⟩
end Go.Proofs.Ytimnhdmpfndeaaa.En
