/- Layer 13: the references' requests. -/
import Derived.Test.YtalgfekpcklijaaGreatSuh
namespace Go.Proofs.YtalgfekpcklijaaGreat.Su
open Go.RowKit Go.Proofs.YtalgfekpcklijaaGreat.Kt Go.Proofs.YtalgfekpcklijaaGreat.Lw Go.Proofs.YtalgfekpcklijaaGreat.St Go.Proofs.YtalgfekpcklijaaGreat.Nm
set_option linter.unusedVariables false
set_option linter.unusedSimpArgs false

set_option maxHeartbeats 3200000 in
theorem rput_2 (v l : Int) (w : World) (hm : setMay 2 v l = true) : Calls Tryz.prog 22 #[.agg #[.int .i64 2, .int .i64 v, .int .i64 l]] w fun e w' => e = .returned (.tuple #[.string (supB 2 v l), .int .i64 (supE 2 v l)]) ∧ Below w.heap.size w w' := by
    have HB := Below.refl w.heap.size w
    have K0 := Blk.new w #[.int .i64 2, .int .i64 v, .int .i64 l] 42
    have z1 := lowB_size 161 1
    have z2 := lowB_size 2 1
    have z3 := lowB_size v 2
    have z4 := lowB_size 0 2
    have z5 := lowB_size l 2
    have hw := Lib.hid (show wayI 2 = 161 by simp [wayI])
    go_enter Tryz.func22, Tryz.ntmps22
    go_wp2_with (first | (go_at_call 60; refine (rsetMay_c _ _ _ _).mono ?_; rintro e w' ⟨rfl, hb⟩; have HB := bl_step (by repeat (with_reducible first | exact HB | apply bl_alloc | apply bl_drew | apply bl_drewN | fail)) hb; have K0 := Blk.below (by repeat (with_reducible first | exact K0 | exact K0 _ | exact K0 _ _ | apply Blk.alloc | apply Blk.drew | apply Blk.drewN | fail)) hb; obtain ⟨_, _, _, _, _, _, _⟩ := Blk.all3 K0) | fail)
    have HC : w'.cell? ⟨w.heap.size, 0, none⟩ = some (.int .i64 2) ∧ w'.cell? ⟨w.heap.size, 1, none⟩ = some (.int .i64 v) ∧ w'.cell? ⟨w.heap.size, 2, none⟩ = some (.int .i64 l) := ⟨K0.cell 0, K0.cell 1, K0.cell 2⟩
    go_region_held3 (fun W => W.cell? ⟨w.heap.size, 0, none⟩ = some (.int .i64 2) ∧ W.cell? ⟨w.heap.size, 1, none⟩ = some (.int .i64 v) ∧ W.cell? ⟨w.heap.size, 2, none⟩ = some (.int .i64 l) ∧ Below w'.heap.size w' W) (first | (refine k3 HC ?_; (repeat (with_reducible first | exact Below.refl _ _ | (apply kz3; assumption) | apply bl_alloc | apply bl_drew | apply bl_drewN | (refine bl_setn ?_ (by apply kz3; assumption)) | (refine bl_step ?_ (by assumption)) | fail)); done) | fail) (first | (go_at_call 56; refine (rlow_c _ _ _ (by omega) (by omega)).mono ?_; rintro e wq ⟨rfl, hb⟩) | fail)
    go_wp2
    go_ret2
    exact ⟨by simp [supB, supE, hm, hw.out], bl_step HB (kz3 (by assumption))⟩
set_option maxHeartbeats 3200000 in
theorem rput_3 (v l : Int) (w : World) (hm : setMay 3 v l = true) : Calls Tryz.prog 22 #[.agg #[.int .i64 3, .int .i64 v, .int .i64 l]] w fun e w' => e = .returned (.tuple #[.string (supB 3 v l), .int .i64 (supE 3 v l)]) ∧ Below w.heap.size w w' := by
    have HB := Below.refl w.heap.size w
    have K0 := Blk.new w #[.int .i64 3, .int .i64 v, .int .i64 l] 42
    have z1 := lowB_size 161 1
    have z2 := lowB_size 3 1
    have z3 := lowB_size v 2
    have z4 := lowB_size 0 2
    have z5 := lowB_size l 2
    have hw := Lib.hid (show wayI 3 = 161 by simp [wayI])
    go_enter Tryz.func22, Tryz.ntmps22
    go_wp2_with (first | (go_at_call 60; refine (rsetMay_c _ _ _ _).mono ?_; rintro e w' ⟨rfl, hb⟩; have HB := bl_step (by repeat (with_reducible first | exact HB | apply bl_alloc | apply bl_drew | apply bl_drewN | fail)) hb; have K0 := Blk.below (by repeat (with_reducible first | exact K0 | exact K0 _ | exact K0 _ _ | apply Blk.alloc | apply Blk.drew | apply Blk.drewN | fail)) hb; obtain ⟨_, _, _, _, _, _, _⟩ := Blk.all3 K0) | fail)
    have HC : w'.cell? ⟨w.heap.size, 0, none⟩ = some (.int .i64 3) ∧ w'.cell? ⟨w.heap.size, 1, none⟩ = some (.int .i64 v) ∧ w'.cell? ⟨w.heap.size, 2, none⟩ = some (.int .i64 l) := ⟨K0.cell 0, K0.cell 1, K0.cell 2⟩
    go_region_held3 (fun W => W.cell? ⟨w.heap.size, 0, none⟩ = some (.int .i64 3) ∧ W.cell? ⟨w.heap.size, 1, none⟩ = some (.int .i64 v) ∧ W.cell? ⟨w.heap.size, 2, none⟩ = some (.int .i64 l) ∧ Below w'.heap.size w' W) (first | (refine k3 HC ?_; (repeat (with_reducible first | exact Below.refl _ _ | (apply kz3; assumption) | apply bl_alloc | apply bl_drew | apply bl_drewN | (refine bl_setn ?_ (by apply kz3; assumption)) | (refine bl_step ?_ (by assumption)) | fail)); done) | fail) (first | (go_at_call 56; refine (rlow_c _ _ _ (by omega) (by omega)).mono ?_; rintro e wq ⟨rfl, hb⟩) | fail)
    go_wp2
    go_ret2
    exact ⟨by simp [supB, supE, hm, hw.out], bl_step HB (kz3 (by assumption))⟩
set_option maxHeartbeats 3200000 in
theorem rput_5 (v l : Int) (w : World) (hm : setMay 5 v l = true) : Calls Tryz.prog 22 #[.agg #[.int .i64 5, .int .i64 v, .int .i64 l]] w fun e w' => e = .returned (.tuple #[.string (supB 5 v l), .int .i64 (supE 5 v l)]) ∧ Below w.heap.size w w' := by
    have HB := Below.refl w.heap.size w
    have K0 := Blk.new w #[.int .i64 5, .int .i64 v, .int .i64 l] 42
    have z1 := lowB_size 161 1
    have z2 := lowB_size 5 1
    have z3 := lowB_size v 2
    have z4 := lowB_size 0 2
    have z5 := lowB_size l 2
    have hw := Lib.hid (show wayI 5 = 161 by simp [wayI])
    go_enter Tryz.func22, Tryz.ntmps22
    go_wp2_with (first | (go_at_call 60; refine (rsetMay_c _ _ _ _).mono ?_; rintro e w' ⟨rfl, hb⟩; have HB := bl_step (by repeat (with_reducible first | exact HB | apply bl_alloc | apply bl_drew | apply bl_drewN | fail)) hb; have K0 := Blk.below (by repeat (with_reducible first | exact K0 | exact K0 _ | exact K0 _ _ | apply Blk.alloc | apply Blk.drew | apply Blk.drewN | fail)) hb; obtain ⟨_, _, _, _, _, _, _⟩ := Blk.all3 K0) | fail)
    have HC : w'.cell? ⟨w.heap.size, 0, none⟩ = some (.int .i64 5) ∧ w'.cell? ⟨w.heap.size, 1, none⟩ = some (.int .i64 v) ∧ w'.cell? ⟨w.heap.size, 2, none⟩ = some (.int .i64 l) := ⟨K0.cell 0, K0.cell 1, K0.cell 2⟩
    go_region_held3 (fun W => W.cell? ⟨w.heap.size, 0, none⟩ = some (.int .i64 5) ∧ W.cell? ⟨w.heap.size, 1, none⟩ = some (.int .i64 v) ∧ W.cell? ⟨w.heap.size, 2, none⟩ = some (.int .i64 l) ∧ Below w'.heap.size w' W) (first | (refine k3 HC ?_; (repeat (with_reducible first | exact Below.refl _ _ | (apply kz3; assumption) | apply bl_alloc | apply bl_drew | apply bl_drewN | (refine bl_setn ?_ (by apply kz3; assumption)) | (refine bl_step ?_ (by assumption)) | fail)); done) | fail) (first | (go_at_call 56; refine (rlow_c _ _ _ (by omega) (by omega)).mono ?_; rintro e wq ⟨rfl, hb⟩) | fail)
    go_wp2
    go_ret2
    exact ⟨by simp [supB, supE, hm, hw.out], bl_step HB (kz3 (by assumption))⟩
set_option maxHeartbeats 3200000 in
theorem rput_n (c v l : Int) (w : World) (h2 : ¬ c = 2) (h3 : ¬ c = 3) (h5 : ¬ c = 5) (hm : setMay c v l = true) : Calls Tryz.prog 22 #[.agg #[.int .i64 c, .int .i64 v, .int .i64 l]] w fun e w' => e = .returned (.tuple #[.string (supB c v l), .int .i64 (supE c v l)]) ∧ Below w.heap.size w w' := by
    have HB := Below.refl w.heap.size w
    have K0 := Blk.new w #[.int .i64 c, .int .i64 v, .int .i64 l] 42
    have z1 := lowB_size 33 1
    have z2 := lowB_size c 1
    have z3 := lowB_size v 2
    have z4 := lowB_size 0 2
    have z5 := lowB_size l 2
    have hw := Lib.hid (show wayI c = 33 by simp [wayI, h2, h3, h5])
    have b2 : (c == 2) = false := by simp [h2]
    have b3 : (c == 3) = false := by simp [h3]
    have b5 : (c == 5) = false := by simp [h5]
    go_enter Tryz.func22, Tryz.ntmps22
    go_wp2_with (first | (go_at_call 60; refine (rsetMay_c _ _ _ _).mono ?_; rintro e w' ⟨rfl, hb⟩; have HB := bl_step (by repeat (with_reducible first | exact HB | apply bl_alloc | apply bl_drew | apply bl_drewN | fail)) hb; have K0 := Blk.below (by repeat (with_reducible first | exact K0 | exact K0 _ | exact K0 _ _ | apply Blk.alloc | apply Blk.drew | apply Blk.drewN | fail)) hb; obtain ⟨_, _, _, _, _, _, _⟩ := Blk.all3 K0) | fail)
    have HC : w'.cell? ⟨w.heap.size, 0, none⟩ = some (.int .i64 c) ∧ w'.cell? ⟨w.heap.size, 1, none⟩ = some (.int .i64 v) ∧ w'.cell? ⟨w.heap.size, 2, none⟩ = some (.int .i64 l) := ⟨K0.cell 0, K0.cell 1, K0.cell 2⟩
    go_region_held3 (fun W => W.cell? ⟨w.heap.size, 0, none⟩ = some (.int .i64 c) ∧ W.cell? ⟨w.heap.size, 1, none⟩ = some (.int .i64 v) ∧ W.cell? ⟨w.heap.size, 2, none⟩ = some (.int .i64 l) ∧ Below w'.heap.size w' W) (first | (refine k3 HC ?_; (repeat (with_reducible first | exact Below.refl _ _ | (apply kz3; assumption) | apply bl_alloc | apply bl_drew | apply bl_drewN | (refine bl_setn ?_ (by apply kz3; assumption)) | (refine bl_step ?_ (by assumption)) | fail)); done) | fail) (first | (go_at_call 56; refine (rlow_c _ _ _ (by omega) (by omega)).mono ?_; rintro e wq ⟨rfl, hb⟩) | fail)
    go_wp2
    go_ret2
    exact ⟨by simp [supB, supE, hm, hw.out], bl_step HB (kz3 (by assumption))⟩
set_option maxHeartbeats 1600000 in
theorem rsput_c (c v l : Int) (w : World) : Calls Tryz.prog 22 #[.agg #[.int .i64 c, .int .i64 v, .int .i64 l]] w fun e w' => e = .returned (.tuple #[.string (supB c v l), .int .i64 (supE c v l)]) ∧ Below w.heap.size w w' := by
  cases hm : setMay c v l
  · have HB := Below.refl w.heap.size w
    have K0 := Blk.new w #[.int .i64 c, .int .i64 v, .int .i64 l] 42
    go_enter Tryz.func22, Tryz.ntmps22
    go_wp2_with (first | (go_at_call 60; refine (rsetMay_c _ _ _ _).mono ?_; rintro e w' ⟨rfl, hb⟩; have HB := bl_step (by repeat (with_reducible first | exact HB | apply bl_alloc | apply bl_drew | apply bl_drewN | fail)) hb; have K0 := Blk.below (by repeat (with_reducible first | exact K0 | exact K0 _ | exact K0 _ _ | apply Blk.alloc | apply Blk.drew | apply Blk.drewN | fail)) hb; obtain ⟨_, _, _, _, _, _, _⟩ := Blk.all3 K0) | fail)
    go_ret2
    exact ⟨by simp [supB, supE, hm]; rfl, HB⟩
  · by_cases h2 : c = 2
    · subst h2; exact rput_2 v l w hm
    by_cases h3 : c = 3
    · subst h3; exact rput_3 v l w hm
    by_cases h5 : c = 5
    · subst h5; exact rput_5 v l w hm
    exact rput_n c v l w h2 h3 h5 hm
set_option maxHeartbeats 1600000 in
theorem rsget_c (s : ByteArray) (w : World) : Calls Tryz.prog 51 #[.string s] w fun e w' => e = .returned (.tuple #[.agg (gotW s), .int .i64 (bif gotS s then 0 else 1300)]) ∧ Below w.heap.size w w' := by
  by_cases hs : s.size = 8
  · have e1 : (s.extract 2 4).size ≤ 4 := by simp; omega
    have e2 : (s.extract 6 8).size ≤ 4 := by simp; omega
    have e0 := byt_at s 1 (by omega)
    have e3 := byt_wrap s 1
    go_enter Tryz.func51, Tryz.ntmps51
    go_wp2
    have K0 := Blk.new w #[.int .i64 0, .int .i64 0, .int .i64 0] 42
    have B0 := bl_alloc (Below.refl w.heap.size w) (.cells #[.int .i64 0, .int .i64 0, .int .i64 0] 42)
    generalize w.alloc (.cells #[.int .i64 0, .int .i64 0, .int .i64 0] 42) = w1 at *
    go_cut [4] (fun v4 wc => ∃ g : Nat, v4 = .pointer (some ⟨g, 0, none⟩) ∧ w.heap.size < g ∧ Blk wc g #[.int .i64 (byt s 1), .int .i64 (numB (s.extract 2 4)), .int .i64 (numB (s.extract 6 8))] 42 ∧ Blk wc w.heap.size #[.int .i64 0, .int .i64 0, .int .i64 0] 42 ∧ Below w.heap.size w wc)
    case first =>
      go_region_held3 (fun W => Below w1.heap.size w1 W) (first | ((repeat (with_reducible first | exact Below.refl _ _ | assumption | apply bl_alloc | apply bl_drew | apply bl_drewN | (refine bl_setn ?_ (by assumption)) | (refine bl_step ?_ (by assumption)) | fail)); done) | fail) (first | (go_at_call 110; refine (of_c _ _ (by assumption)).mono ?_; rintro e w' ⟨rfl, rfl⟩) | fail)
      all_goals (go_wp2_with fail; go_meet; exact ⟨_, rfl, K0.lt, (Blk.new _ _ _).drew, (K0.alloc _).drew, bl_drew (bl_alloc B0 _)⟩)
    case rest =>
      obtain ⟨g, rfl, hg, K1, K2, HB⟩ := hcut
      clear K0 B0
      obtain ⟨_, _, _, _, _, _, _⟩ := Blk.all3 K1
      obtain ⟨_, _, _, _, _, _, _⟩ := Blk.all3 K2
      have hne : w.heap.size ≠ g := by omega
      have hne2 : g ≠ w.heap.size := by omega
      have HS := Lib.hid hs
      clear hs e1 e2 e0 e3
      cases hm : setMay (byt s 1) (numB (s.extract 2 4)) (numB (s.extract 6 8))
      · have hg : gotS s = false := by simp [gotS, hm]
        have p1 : supE (byt s 1) (numB (s.extract 2 4)) (numB (s.extract 6 8)) = 1300 := by simp [supE, hm]
        clear hm
        go_wp2_with (first | (go_at_call 22; refine (rsput_c _ _ _ _).mono ?_; rintro e w' ⟨rfl, hb⟩; have HB := bl_step (by repeat (with_reducible first | exact HB | apply bl_alloc | apply bl_drew | apply bl_drewN | fail)) hb; have K1 := Blk.below (by repeat (with_reducible first | exact K1 | exact K1 _ | exact K1 _ _ | apply Blk.alloc | apply Blk.drew | apply Blk.drewN | fail)) hb; obtain ⟨_, _, _, _, _, _, _⟩ := Blk.all3 K1; have K2 := Blk.below (by repeat (with_reducible first | exact K2 | exact K2 _ | exact K2 _ _ | apply Blk.alloc | apply Blk.drew | apply Blk.drewN | fail)) hb; obtain ⟨_, _, _, _, _, _, _⟩ := Blk.all3 K2) | fail)
        have d0 : w'.cell? ⟨w.heap.size, 0, none⟩ = some (.int .i64 0) := K2.cell 0
        have d1 : w'.cell? ⟨w.heap.size, 1, none⟩ = some (.int .i64 0) := K2.cell 1
        have d2 : w'.cell? ⟨w.heap.size, 2, none⟩ = some (.int .i64 0) := K2.cell 2
        exact bodyPost_ret (v := .tuple #[.agg #[.int .i64 0, .int .i64 0, .int .i64 0], .int .i64 1300]) (by simp [results, Tryz.results51, go_sem, d0, d1, d2]) rfl ⟨by simp [gotW, hg], (by repeat (with_reducible first | exact Below.refl _ _ | assumption | (refine bl_set ?_ (by omega)) | apply bl_alloc | apply bl_drewN | apply bl_drew | (refine bl_step ?_ (by assumption)) | fail))⟩
      · have p1 : supE (byt s 1) (numB (s.extract 2 4)) (numB (s.extract 6 8)) = 0 := by simp [supE, hm]
        by_cases hp : supB (byt s 1) (numB (s.extract 2 4)) (numB (s.extract 6 8)) = s
        · have q1 := eqs_t hp
          have hg : gotS s = true := by simp [gotS, hm, hp, HS.out]
          clear hp hm
          go_wp2_with (first | (go_at_call 22; refine (rsput_c _ _ _ _).mono ?_; rintro e w' ⟨rfl, hb⟩; have HB := bl_step (by repeat (with_reducible first | exact HB | apply bl_alloc | apply bl_drew | apply bl_drewN | fail)) hb; have K1 := Blk.below (by repeat (with_reducible first | exact K1 | exact K1 _ | exact K1 _ _ | apply Blk.alloc | apply Blk.drew | apply Blk.drewN | fail)) hb; obtain ⟨_, _, _, _, _, _, _⟩ := Blk.all3 K1; have K2 := Blk.below (by repeat (with_reducible first | exact K2 | exact K2 _ | exact K2 _ _ | apply Blk.alloc | apply Blk.drew | apply Blk.drewN | fail)) hb; obtain ⟨_, _, _, _, _, _, _⟩ := Blk.all3 K2) | fail)
          have d0 : w'.cell? ⟨w.heap.size, 0, none⟩ = some (.int .i64 0) := K2.cell 0
          have d1 : w'.cell? ⟨w.heap.size, 1, none⟩ = some (.int .i64 0) := K2.cell 1
          have d2 : w'.cell? ⟨w.heap.size, 2, none⟩ = some (.int .i64 0) := K2.cell 2
          exact bodyPost_ret (v := .tuple #[.agg #[.int .i64 (byt s 1), .int .i64 (numB (s.extract 2 4)), .int .i64 (numB (s.extract 6 8))], .int .i64 0]) (by simp [results, Tryz.results51, go_sem, d0, d1, d2]) rfl ⟨by simp [gotW, hg], (by repeat (with_reducible first | exact Below.refl _ _ | assumption | (refine bl_set ?_ (by omega)) | apply bl_alloc | apply bl_drewN | apply bl_drew | (refine bl_step ?_ (by assumption)) | fail))⟩
        · have q1 := eqs_f hp
          have hg : gotS s = false := by simp [gotS, hp]
          clear hp hm
          go_wp2_with (first | (go_at_call 22; refine (rsput_c _ _ _ _).mono ?_; rintro e w' ⟨rfl, hb⟩; have HB := bl_step (by repeat (with_reducible first | exact HB | apply bl_alloc | apply bl_drew | apply bl_drewN | fail)) hb; have K1 := Blk.below (by repeat (with_reducible first | exact K1 | exact K1 _ | exact K1 _ _ | apply Blk.alloc | apply Blk.drew | apply Blk.drewN | fail)) hb; obtain ⟨_, _, _, _, _, _, _⟩ := Blk.all3 K1; have K2 := Blk.below (by repeat (with_reducible first | exact K2 | exact K2 _ | exact K2 _ _ | apply Blk.alloc | apply Blk.drew | apply Blk.drewN | fail)) hb; obtain ⟨_, _, _, _, _, _, _⟩ := Blk.all3 K2) | fail)
          have d0 : w'.cell? ⟨w.heap.size, 0, none⟩ = some (.int .i64 0) := K2.cell 0
          have d1 : w'.cell? ⟨w.heap.size, 1, none⟩ = some (.int .i64 0) := K2.cell 1
          have d2 : w'.cell? ⟨w.heap.size, 2, none⟩ = some (.int .i64 0) := K2.cell 2
          exact bodyPost_ret (v := .tuple #[.agg #[.int .i64 0, .int .i64 0, .int .i64 0], .int .i64 1300]) (by simp [results, Tryz.results51, go_sem, d0, d1, d2]) rfl ⟨by simp [gotW, hg], (by repeat (with_reducible first | exact Below.refl _ _ | assumption | (refine bl_set ?_ (by omega)) | apply bl_alloc | apply bl_drewN | apply bl_drew | (refine bl_step ?_ (by assumption)) | fail))⟩
  · have h : ((s.size : Int) != 8) = true := by rw [bne_iff_ne]; omega
    have hg : gotS s = false := by simp [gotS, hs]
    go_enter Tryz.func51, Tryz.ntmps51
    go_wp2
    exact bodyPost_ret (v := .tuple #[.agg #[.int .i64 0, .int .i64 0, .int .i64 0], .int .i64 1300]) (by simp [results, Tryz.results51, go_sem]) rfl ⟨by simp [gotW, hg], (by repeat (with_reducible first | exact Below.refl _ _ | assumption | (refine bl_set ?_ (by omega)) | apply bl_alloc | apply bl_drewN | apply bl_drew | (refine bl_step ?_ (by assumption)) | fail))⟩
end Go.Proofs.YtalgfekpcklijaaGreat.Su
