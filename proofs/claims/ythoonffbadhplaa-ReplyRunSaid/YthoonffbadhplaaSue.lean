/- Layer 11: files read: what the references' function answers. -/
import Derived.Test.YthoonffbadhplaaSud
namespace Go.Proofs.Ythoonffbadhplaa.Sf
open Go.RowKit Go.Proofs.Ythoonffbadhplaa.Kt Go.Proofs.Ythoonffbadhplaa.Lw Go.Proofs.Ythoonffbadhplaa.St Go.Proofs.Ythoonffbadhplaa.Nm Go.Proofs.Ythoonffbadhplaa.Ic Go.Proofs.Ythoonffbadhplaa.Cr
set_option linter.unusedVariables false
set_option linter.unusedSimpArgs false
theorem low_eq (x : Int) (t : ByteArray) (h0 : 0 ≤ x) (h1 : x < 4294967296) (ht : t.size = 4) : ((lowB x 4).toList == t.toList) = (numB t == x) := by
  rw [eqs, Bool.eq_iff_iff]
  simp only [decide_eq_true_eq, beq_iff_eq]
  constructor
  · rintro rfl
    rw [numB_lowB]
    omega
  · rintro rfl
    have := lowB_numB t
    rwa [ht] at this
set_option maxHeartbeats 1600000 in
theorem rparse_c (s : ByteArray) (w : World) (hs : s.size ≤ 9223372036854775807) : Calls Try.prog 54 #[.string s] w fun e w' => e = .returned (parV3 s) ∧ Below w.heap.size w w' := by
  have HB := Below.refl w.heap.size w
  cases hr : rngB ((s.size : Int) - 16) 1 288
  · have hv := parV3_form (s := s) (by simp [parF, hr])
    go_enter Try.func54, Try.ntmps54
    go_wp2_with (first | (go_at_call 51; refine (upTo_c _ _ _ _).mono ?_; rintro e w' ⟨rfl, rfl⟩) | fail)
    exact bodyPost_ret (v := parV3 s) (by simp [results, Try.results54, go_sem, hv]) rfl ⟨rfl, (by repeat (with_reducible first | exact Below.refl _ _ | assumption | (refine bl_set ?_ (by omega)) | apply bl_alloc | apply bl_drewN | apply bl_drew | (refine bl_step ?_ (by assumption)) | fail))⟩
  · obtain ⟨k, hk⟩ : ∃ k, s.size = k + 16 := ⟨s.size - 16, by simp [rngB] at hr; omega⟩
    have hr' : rngB (k : Int) 1 288 = true := by rw [hk] at hr; rw [← hr]; congr 1; omega
    have hkb : k ≤ 288 := by simp [rngB] at hr'; omega
    cases hm : parM s
    · have hv := parV3_form (s := s) (by simp [parF, hr, hm])
      simp only [parM, hk, Nat.add_sub_cancel] at hm
      go_enter Try.func54, Try.ntmps54
      go_wp2_with (first | (go_at_call 51; refine (upTo_c _ _ _ _).mono ?_; rintro e w' ⟨rfl, rfl⟩) | fail)
      exact bodyPost_ret (v := parV3 s) (by simp [results, Try.results54, go_sem, hv]) rfl ⟨rfl, (by repeat (with_reducible first | exact Below.refl _ _ | assumption | (refine bl_set ?_ (by omega)) | apply bl_alloc | apply bl_drewN | apply bl_drew | (refine bl_step ?_ (by assumption)) | fail))⟩
    · have hf : parF s = true := by simp [parF, hr, hm]
      simp only [parM, hk, Nat.add_sub_cancel] at hm
      go_enter Try.func54, Try.ntmps54
      go_upto_region 4 with (first | (go_at_call 51; refine (upTo_c _ _ _ _).mono ?_; rintro e w' ⟨rfl, rfl⟩) | fail)
      have B1 := bl_alloc HB (.cells #[.int .i64 0, .int .i64 0, .int .i64 0] 61)
      have L0 := Blk.new w #[.int .i64 0, .int .i64 0, .int .i64 0] 61
      generalize w.alloc (.cells #[.int .i64 0, .int .i64 0, .int .i64 0] 61) = w1 at *
      obtain ⟨m, hm12⟩ : ∃ m, m = k + 12 := ⟨_, rfl⟩
      have z2 : (s.extract 0 m).size ≤ 9223372036854775807 := by simp; omega
      have q : IntKind.i64.wrap ((k : Int) + 12) = (m : Int) := by rw [IntKind.wrap_i64]; omega
      have g0 : (0 : Int) ≤ (m : Int) := by omega
      have g1 : (m : Int) ≤ (s.size : Int) := by omega
      have g2 : m ≤ s.size := by omega
      have hcb := crcB_bd (s.extract 0 m)
      have hS : parS s = ((lowB (crcB (s.extract 0 m)) 4).toList == (s.extract m s.size).toList) := by
        rw [low_eq _ _ hcb.1 hcb.2 (by simp; omega)]
        simp only [parS, hk, hm12, Nat.add_sub_cancel]
      have hk' := Lib.hid hk
      have hm' := Lib.hid hm12
      clear hk hm hr hr' hm12 hcb
      cases hp : parS s
      · have hv := parV3_sum hf hp
        rw [hS] at hp
        have hn : ¬ (lowB (crcB (s.extract 0 m)) 4).toList = (s.extract m s.size).toList := by
          intro h
          rw [h] at hp
          simp at hp
        have hq : (!((lowB (crcB (s.extract 0 m)) 4).toList == (s.extract m s.size).toList)) = true := by rw [hp]; rfl
        clear hS
        go_region_held3 (fun W => Below w1.heap.size w1 W) (first | ((repeat (with_reducible first | exact Below.refl _ _ | assumption | apply bl_alloc | apply bl_drew | apply bl_drewN | (refine bl_setn ?_ (by assumption)) | (refine bl_step ?_ (by assumption)) | fail)); done) | fail) (first | (go_at_call 53; refine (rcrc_c _ _ z2).mono ?_; rintro e w' ⟨rfl, rfl⟩) | (go_at_call 41; refine (rlow_c _ _ _ (by omega) (by omega)).mono ?_; rintro e wq ⟨rfl, hb⟩) | fail)
        have hb : Below w1.heap.size w1 wq := (by assumption)
        have HB := B1
        have HB := bl_step (by repeat (with_reducible first | exact HB | apply bl_alloc | apply bl_drew | apply bl_drewN | fail)) hb; have L0 := Blk.below (by repeat (with_reducible first | exact L0 | exact L0 _ | exact L0 _ _ | apply Blk.alloc | apply Blk.drew | apply Blk.drewN | fail)) hb; obtain ⟨_, _, _, _, _, _, _⟩ := Blk.all3 L0
        go_wp2_with fail
        exact bodyPost_ret (v := parV3 s) (by simp [results, Try.results54, go_sem, hv, *]) rfl ⟨rfl, (by repeat (with_reducible first | exact Below.refl _ _ | assumption | (refine bl_set ?_ (by omega)) | apply bl_alloc | apply bl_drewN | apply bl_drew | (refine bl_step ?_ (by assumption)) | fail))⟩
      · have hv := parV3_ok hk'.out hf hp
        rw [hS] at hp
        have hq : (!((lowB (crcB (s.extract 0 m)) 4).toList == (s.extract m s.size).toList)) = false := by rw [hp]; rfl
        have hn : (lowB (crcB (s.extract 0 m)) 4).toList = (s.extract m s.size).toList := by simpa using hp
        go_region_held3 (fun W => Below w1.heap.size w1 W) (first | ((repeat (with_reducible first | exact Below.refl _ _ | assumption | apply bl_alloc | apply bl_drew | apply bl_drewN | (refine bl_setn ?_ (by assumption)) | (refine bl_step ?_ (by assumption)) | fail)); done) | fail) (first | (go_at_call 53; refine (rcrc_c _ _ z2).mono ?_; rintro e w' ⟨rfl, rfl⟩) | (go_at_call 41; refine (rlow_c _ _ _ (by omega) (by omega)).mono ?_; rintro e wq ⟨rfl, hb⟩) | fail)
        have hb : Below w1.heap.size w1 wq := (by assumption)
        have HB := B1
        have HB := bl_step (by repeat (with_reducible first | exact HB | apply bl_alloc | apply bl_drew | apply bl_drewN | fail)) hb; have L0 := Blk.below (by repeat (with_reducible first | exact L0 | exact L0 _ | exact L0 _ _ | apply Blk.alloc | apply Blk.drew | apply Blk.drewN | fail)) hb; obtain ⟨_, _, _, _, _, _, _⟩ := Blk.all3 L0
        obtain ⟨m2, e2⟩ : ∃ m2, m2 = k + 2 := ⟨_, rfl⟩
        obtain ⟨m4, e4⟩ : ∃ m4, m4 = k + 4 := ⟨_, rfl⟩
        obtain ⟨m6, e6⟩ : ∃ m6, m6 = k + 6 := ⟨_, rfl⟩
        rw [← e2, ← e4, ← e6] at hv
        have hk2 := hk'.out
        have y2 : (s.extract k m2).size ≤ 4 := by simp; omega
        have y4 : (s.extract m2 m4).size ≤ 4 := by simp; omega
        have y6 : (s.extract m4 m6).size ≤ 4 := by simp; omega
        have i0 : (0 : Int) ≤ (k : Int) := by omega
        have i1 : (k : Int) ≤ (m2 : Int) := by omega
        have i2 : (0 : Int) ≤ (m2 : Int) := by omega
        have i3 : (m2 : Int) ≤ (m4 : Int) := by omega
        have i4 : (0 : Int) ≤ (m4 : Int) := by omega
        have i5 : (m4 : Int) ≤ (m6 : Int) := by omega
        have j0 : (k : Int) ≤ (s.size : Int) := by omega
        have j2 : (m2 : Int) ≤ (s.size : Int) := by omega
        have j4 : (m4 : Int) ≤ (s.size : Int) := by omega
        have j6 : (m6 : Int) ≤ (s.size : Int) := by omega
        have n1 : k ≤ m2 := by omega
        have n3 : m2 ≤ m4 := by omega
        have n5 : m4 ≤ m6 := by omega
        have o0 : k ≤ s.size := by omega
        have o2 : m2 ≤ s.size := by omega
        have o4 : m4 ≤ s.size := by omega
        have o6 : m6 ≤ s.size := by omega
        have x2 : IntKind.i64.wrap ((k : Int) + 2) = (m2 : Int) := by rw [IntKind.wrap_i64]; omega
        have x4 : IntKind.i64.wrap ((k : Int) + 4) = (m4 : Int) := by rw [IntKind.wrap_i64]; omega
        have x6 : IntKind.i64.wrap ((k : Int) + 6) = (m6 : Int) := by rw [IntKind.wrap_i64]; omega
        clear hS z2 hk2 e2 e4 e6 g0 g1 g2
        have HV := Lib.hid hv
        clear hv
        go_wp2_with fail
        go_region_held3 (fun W => Below w.heap.size w W) (first | exact (by repeat (with_reducible first | exact Below.refl _ _ | assumption | (refine bl_set ?_ (by omega)) | apply bl_alloc | apply bl_drewN | apply bl_drew | (refine bl_step ?_ (by assumption)) | fail)) | fail) (first | (go_at_call 61; refine (of_c _ _ (by assumption)).mono ?_; rintro e w' ⟨rfl, rfl⟩) | fail)
        go_wp2_with fail
        exact bodyPost_ret (v := parV3 s) (by simp [results, Try.results54, go_sem, HV.out, *]) rfl ⟨rfl, (by repeat (with_reducible first | exact Below.refl _ _ | assumption | (refine bl_set ?_ (by omega)) | apply bl_alloc | apply bl_drewN | apply bl_drew | (refine bl_step ?_ (by assumption)) | fail))⟩
end Go.Proofs.Ythoonffbadhplaa.Sf
