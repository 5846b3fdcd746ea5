/- Layer 13: requests out of bytes; the references' Put. -/
import Derived.Test.YtalgfekpcklijaaGreatSuh
namespace Go.Proofs.YtalgfekpcklijaaGreat.Su
open Go.RowKit Go.Proofs.YtalgfekpcklijaaGreat.Kt Go.Proofs.YtalgfekpcklijaaGreat.Lw Go.Proofs.YtalgfekpcklijaaGreat.St Go.Proofs.YtalgfekpcklijaaGreat.Nm
set_option linter.unusedVariables false
set_option linter.unusedSimpArgs false

set_option maxHeartbeats 1600000 in
theorem sget_c (s : ByteArray) (w : World) : Calls Tryz.prog 44 #[.string s] w fun e w' => e = .returned (.tuple #[.agg (gotW s), .int .i64 (bif gotS s then 0 else 1300)]) ∧ Below w.heap.size w w' := by
  by_cases hs : s.size = 8
  · have e1 : (s.extract 2 4).size ≤ 4 := by simp; omega
    have e2 : (s.extract 6 8).size ≤ 4 := by simp; omega
    have e0 := byt_at s 1 (by omega)
    have e3 := byt_wrap s 1
    go_enter Tryz.func44, Tryz.ntmps44
    go_wp2
    have K0 := Blk.new w #[.int .i64 0, .int .i64 0, .int .i64 0] 42
    have B0 := bl_alloc (Below.refl w.heap.size w) (.cells #[.int .i64 0, .int .i64 0, .int .i64 0] 42)
    generalize w.alloc (.cells #[.int .i64 0, .int .i64 0, .int .i64 0] 42) = w1 at *
    go_cut [4] (fun v4 wc => ∃ g : Nat, v4 = .pointer (some ⟨g, 0, none⟩) ∧ w.heap.size < g ∧ Blk wc g #[.int .i64 (byt s 1), .int .i64 (numB (s.extract 2 4)), .int .i64 (numB (s.extract 6 8))] 42 ∧ Blk wc w.heap.size #[.int .i64 0, .int .i64 0, .int .i64 0] 42 ∧ Below w.heap.size w wc)
    case first =>
      go_region_held3 (fun W => Below w1.heap.size w1 W) (first | ((repeat (with_reducible first | exact Below.refl _ _ | assumption | apply bl_alloc | apply bl_drew | apply bl_drewN | (refine bl_setn ?_ (by assumption)) | (refine bl_step ?_ (by assumption)) | fail)); done) | fail) (first | (go_at_call 102; refine (num_c _ _ (by assumption)).mono ?_; rintro e w' ⟨rfl, rfl⟩) | fail)
      all_goals (go_wp2_with fail; go_meet; exact ⟨_, rfl, K0.lt, (Blk.new _ _ _).drew, (K0.alloc _).drew, bl_drew (bl_alloc B0 _)⟩)
    case rest =>
      obtain ⟨g, rfl, hg, K1, K2, HB⟩ := hcut
      clear K0 B0
      obtain ⟨_, _, _, _, _, _, _⟩ := Blk.all3 K1
      obtain ⟨_, _, _, _, _, _, _⟩ := Blk.all3 K2
      have hne : w.heap.size ≠ g := by omega
      have hne2 : g ≠ w.heap.size := by omega
      have HS := Lib.hid hs
      clear hs e1 e2 e0 e3
      cases hm : setMay (byt s 1) (numB (s.extract 2 4)) (numB (s.extract 6 8))
      · have hg : gotS s = false := by simp [gotS, hm]
        have p1 : supE (byt s 1) (numB (s.extract 2 4)) (numB (s.extract 6 8)) = 1300 := by simp [supE, hm]
        clear hm
        go_wp2_with (first | (go_at_call 103; refine (sput_c _ _ _ _).mono ?_; rintro e w' ⟨rfl, hb⟩; have HB := bl_step (by repeat (with_reducible first | exact HB | apply bl_alloc | apply bl_drew | apply bl_drewN | fail)) hb; have K1 := Blk.below (by repeat (with_reducible first | exact K1 | exact K1 _ | exact K1 _ _ | apply Blk.alloc | apply Blk.drew | apply Blk.drewN | fail)) hb; obtain ⟨_, _, _, _, _, _, _⟩ := Blk.all3 K1; have K2 := Blk.below (by repeat (with_reducible first | exact K2 | exact K2 _ | exact K2 _ _ | apply Blk.alloc | apply Blk.drew | apply Blk.drewN | fail)) hb; obtain ⟨_, _, _, _, _, _, _⟩ := Blk.all3 K2) | fail)
        have d0 : w'.cell? ⟨w.heap.size, 0, none⟩ = some (.int .i64 0) := K2.cell 0
        have d1 : w'.cell? ⟨w.heap.size, 1, none⟩ = some (.int .i64 0) := K2.cell 1
        have d2 : w'.cell? ⟨w.heap.size, 2, none⟩ = some (.int .i64 0) := K2.cell 2
        exact bodyPost_ret (v := .tuple #[.agg #[.int .i64 0, .int .i64 0, .int .i64 0], .int .i64 1300]) (by simp [results, Tryz.results44, go_sem, d0, d1, d2]) rfl ⟨by simp [gotW, hg], (by repeat (with_reducible first | exact Below.refl _ _ | assumption | (refine bl_set ?_ (by omega)) | apply bl_alloc | apply bl_drewN | apply bl_drew | (refine bl_step ?_ (by assumption)) | fail))⟩
      · have p1 : supE (byt s 1) (numB (s.extract 2 4)) (numB (s.extract 6 8)) = 0 := by simp [supE, hm]
        by_cases hp : supB (byt s 1) (numB (s.extract 2 4)) (numB (s.extract 6 8)) = s
        · have q1 := eqs_t hp
          have hg : gotS s = true := by simp [gotS, hm, hp, HS.out]
          clear hp hm
          go_wp2_with (first | (go_at_call 103; refine (sput_c _ _ _ _).mono ?_; rintro e w' ⟨rfl, hb⟩; have HB := bl_step (by repeat (with_reducible first | exact HB | apply bl_alloc | apply bl_drew | apply bl_drewN | fail)) hb; have K1 := Blk.below (by repeat (with_reducible first | exact K1 | exact K1 _ | exact K1 _ _ | apply Blk.alloc | apply Blk.drew | apply Blk.drewN | fail)) hb; obtain ⟨_, _, _, _, _, _, _⟩ := Blk.all3 K1; have K2 := Blk.below (by repeat (with_reducible first | exact K2 | exact K2 _ | exact K2 _ _ | apply Blk.alloc | apply Blk.drew | apply Blk.drewN | fail)) hb; obtain ⟨_, _, _, _, _, _, _⟩ := Blk.all3 K2) | fail)
          have d0 : w'.cell? ⟨w.heap.size, 0, none⟩ = some (.int .i64 0) := K2.cell 0
          have d1 : w'.cell? ⟨w.heap.size, 1, none⟩ = some (.int .i64 0) := K2.cell 1
          have d2 : w'.cell? ⟨w.heap.size, 2, none⟩ = some (.int .i64 0) := K2.cell 2
          exact bodyPost_ret (v := .tuple #[.agg #[.int .i64 (byt s 1), .int .i64 (numB (s.extract 2 4)), .int .i64 (numB (s.extract 6 8))], .int .i64 0]) (by simp [results, Tryz.results44, go_sem, d0, d1, d2]) rfl ⟨by simp [gotW, hg], (by repeat (with_reducible first | exact Below.refl _ _ | assumption | (refine bl_set ?_ (by omega)) | apply bl_alloc | apply bl_drewN | apply bl_drew | (refine bl_step ?_ (by assumption)) | fail))⟩
        · have q1 := eqs_f hp
          have hg : gotS s = false := by simp [gotS, hp]
          clear hp hm
          go_wp2_with (first | (go_at_call 103; refine (sput_c _ _ _ _).mono ?_; rintro e w' ⟨rfl, hb⟩; have HB := bl_step (by repeat (with_reducible first | exact HB | apply bl_alloc | apply bl_drew | apply bl_drewN | fail)) hb; have K1 := Blk.below (by repeat (with_reducible first | exact K1 | exact K1 _ | exact K1 _ _ | apply Blk.alloc | apply Blk.drew | apply Blk.drewN | fail)) hb; obtain ⟨_, _, _, _, _, _, _⟩ := Blk.all3 K1; have K2 := Blk.below (by repeat (with_reducible first | exact K2 | exact K2 _ | exact K2 _ _ | apply Blk.alloc | apply Blk.drew | apply Blk.drewN | fail)) hb; obtain ⟨_, _, _, _, _, _, _⟩ := Blk.all3 K2) | fail)
          have d0 : w'.cell? ⟨w.heap.size, 0, none⟩ = some (.int .i64 0) := K2.cell 0
          have d1 : w'.cell? ⟨w.heap.size, 1, none⟩ = some (.int .i64 0) := K2.cell 1
          have d2 : w'.cell? ⟨w.heap.size, 2, none⟩ = some (.int .i64 0) := K2.cell 2
          exact bodyPost_ret (v := .tuple #[.agg #[.int .i64 0, .int .i64 0, .int .i64 0], .int .i64 1300]) (by simp [results, Tryz.results44, go_sem, d0, d1, d2]) rfl ⟨by simp [gotW, hg], (by repeat (with_reducible first | exact Below.refl _ _ | assumption | (refine bl_set ?_ (by omega)) | apply bl_alloc | apply bl_drewN | apply bl_drew | (refine bl_step ?_ (by assumption)) | fail))⟩
  · have h : ((s.size : Int) != 8) = true := by rw [bne_iff_ne]; omega
    have hg : gotS s = false := by simp [gotS, hs]
    go_enter Tryz.func44, Tryz.ntmps44
    go_wp2
    exact bodyPost_ret (v := .tuple #[.agg #[.int .i64 0, .int .i64 0, .int .i64 0], .int .i64 1300]) (by simp [results, Tryz.results44, go_sem]) rfl ⟨by simp [gotW, hg], (by repeat (with_reducible first | exact Below.refl _ _ | assumption | (refine bl_set ?_ (by omega)) | apply bl_alloc | apply bl_drewN | apply bl_drew | (refine bl_step ?_ (by assumption)) | fail))⟩
end Go.Proofs.YtalgfekpcklijaaGreat.Su
