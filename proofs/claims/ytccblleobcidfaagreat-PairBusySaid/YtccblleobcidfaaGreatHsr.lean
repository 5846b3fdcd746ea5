/- Layer 22: hosts: what the references' May answers. -/
import Derived.Test.YtccblleobcidfaaGreatHst
import Derived.Test.YtccblleobcidfaaGreatGb
namespace Go.Proofs.YtccblleobcidfaaGreat.Ho
open Go.RowKit Go.Proofs.YtccblleobcidfaaGreat.Kt Go.Proofs.YtccblleobcidfaaGreat.Nm
set_option linter.unusedVariables false
set_option linter.unusedSimpArgs false
set_option maxHeartbeats 6400000 in
theorem rhmay_c (ph : Int) (im : ByteArray) (bl : Int) (ag : Bool) (tr : Int) (rd : ByteArray) (rp : Int) (w : World) (hi : im.size ≤ 1000000000000000) (hr : rd.size ≤ 1000000000000000) :
    Calls Tryz.prog 61 #[hostV ph im bl ag tr rd rp] w fun e w' => e = .returned (.bool (hostMay ph im bl tr rd rp)) ∧ Below w.heap.size w w' := by
  have K0 := Blk.new w #[.int .i64 ph, .string im, .int .i64 bl, .bool ag, .int .i64 tr, .string rd, .int .i64 rp] 30
  have HB1 := bl_alloc (Below.refl w.heap.size w) (.cells #[.int .i64 ph, .string im, .int .i64 bl, .bool ag, .int .i64 tr, .string rd, .int .i64 rp] 30)
  obtain ⟨c0, c1, c2, c3, c4, c5, c6, _⟩ := Blk.all7 K0
  clear K0
  cases a1 : rngB ph 0 7
  · have u1 := Lib.hid (fun W : World => upTo16_c ph 0 7 W)
    rw [a1] at u1
    have u2 := Lib.hid (fun W : World => upTo16_c rp 0 3 W)
    have u6 := Lib.hid (fun W : World => upTo16_c bl 0 (manyI im) W)
    have u7 := Lib.hid (fun W : World => upTo16_c tr 0 8 W)
    have v5 := Lib.hid (fun W : World => rests_c ph im bl ag tr rd rp W)
    go_enter Tryz.func61, Tryz.ntmps61
    go_wp2
    generalize w.alloc (.cells #[.int .i64 ph, .string im, .int .i64 bl, .bool ag, .int .i64 tr, .string rd, .int .i64 rp] 30) = w1 at *
    have q0 := fun s : Wld w1 => Wld.cell c0 s
    have q1 := fun s : Wld w1 => Wld.cell c1 s
    have q2 := fun s : Wld w1 => Wld.cell c2 s
    have q3 := fun s : Wld w1 => Wld.cell c3 s
    have q4 := fun s : Wld w1 => Wld.cell c4 s
    have q5 := fun s : Wld w1 => Wld.cell c5 s
    have q6 := fun s : Wld w1 => Wld.cell c6 s
    refine wld_lit (by kernel_rfl) (by kernel_rfl) ?_
    repeat (go_big_quiet_step (first | (go_at_call 121; first | (with_reducible exact Wld.same (u1.out _)) | (with_reducible exact Wld.same (u2.out _)) | (with_reducible exact Wld.same (u6.out _)) | (with_reducible exact Wld.same (u7.out _)) | fail) | (go_at_call 96; with_reducible exact Wld.call (v5.out _)) | (go_at_call 122; with_reducible exact Wld.same (pieces_c im _ hi)) | fail))
    refine wpQuiet_nil ?_
    refine Wld.elim ?_
    intro w2 hb2
    clear q0 q1 q2 q3 q4 q5 q6
    go_wp2_with fail
    go_ret
    refine ⟨retB ?_, bl_step HB1 hb2⟩
    simp [hostMay, *]
  · cases a2 : rngB rp 0 3
    · have u1 := Lib.hid (fun W : World => upTo16_c ph 0 7 W)
      rw [a1] at u1
      have u2 := Lib.hid (fun W : World => upTo16_c rp 0 3 W)
      rw [a2] at u2
      have u6 := Lib.hid (fun W : World => upTo16_c bl 0 (manyI im) W)
      have u7 := Lib.hid (fun W : World => upTo16_c tr 0 8 W)
      have v5 := Lib.hid (fun W : World => rests_c ph im bl ag tr rd rp W)
      go_enter Tryz.func61, Tryz.ntmps61
      go_wp2
      generalize w.alloc (.cells #[.int .i64 ph, .string im, .int .i64 bl, .bool ag, .int .i64 tr, .string rd, .int .i64 rp] 30) = w1 at *
      have q0 := fun s : Wld w1 => Wld.cell c0 s
      have q1 := fun s : Wld w1 => Wld.cell c1 s
      have q2 := fun s : Wld w1 => Wld.cell c2 s
      have q3 := fun s : Wld w1 => Wld.cell c3 s
      have q4 := fun s : Wld w1 => Wld.cell c4 s
      have q5 := fun s : Wld w1 => Wld.cell c5 s
      have q6 := fun s : Wld w1 => Wld.cell c6 s
      refine wld_lit (by kernel_rfl) (by kernel_rfl) ?_
      repeat (go_big_quiet_step (first | (go_at_call 121; first | (with_reducible exact Wld.same (u1.out _)) | (with_reducible exact Wld.same (u2.out _)) | (with_reducible exact Wld.same (u6.out _)) | (with_reducible exact Wld.same (u7.out _)) | fail) | (go_at_call 96; with_reducible exact Wld.call (v5.out _)) | (go_at_call 122; with_reducible exact Wld.same (pieces_c im _ hi)) | fail))
      refine wpQuiet_nil ?_
      refine Wld.elim ?_
      intro w2 hb2
      clear q0 q1 q2 q3 q4 q5 q6
      go_wp2_with fail
      go_ret
      refine ⟨retB ?_, bl_step HB1 hb2⟩
      simp [hostMay, *]
    · by_cases a3 : (im.size : Int) ≤ 288
      · have b3 : im.size ≤ 288 := by omega
        cases a4 : im.toList.isEmpty
        · cases a5 : offB ph
          · cases a6 : rngB bl 0 (manyI im)
            · have u1 := Lib.hid (fun W : World => upTo16_c ph 0 7 W)
              rw [a1] at u1
              have u2 := Lib.hid (fun W : World => upTo16_c rp 0 3 W)
              rw [a2] at u2
              have u6 := Lib.hid (fun W : World => upTo16_c bl 0 (manyI im) W)
              rw [a6] at u6
              have u7 := Lib.hid (fun W : World => upTo16_c tr 0 8 W)
              have v5 := Lib.hid (fun W : World => rests_c ph im bl ag tr rd rp W)
              rw [a5] at v5
              go_enter Tryz.func61, Tryz.ntmps61
              go_wp2
              generalize w.alloc (.cells #[.int .i64 ph, .string im, .int .i64 bl, .bool ag, .int .i64 tr, .string rd, .int .i64 rp] 30) = w1 at *
              have q0 := fun s : Wld w1 => Wld.cell c0 s
              have q1 := fun s : Wld w1 => Wld.cell c1 s
              have q2 := fun s : Wld w1 => Wld.cell c2 s
              have q3 := fun s : Wld w1 => Wld.cell c3 s
              have q4 := fun s : Wld w1 => Wld.cell c4 s
              have q5 := fun s : Wld w1 => Wld.cell c5 s
              have q6 := fun s : Wld w1 => Wld.cell c6 s
              refine wld_lit (by kernel_rfl) (by kernel_rfl) ?_
              repeat (go_big_quiet_step (first | (go_at_call 121; first | (with_reducible exact Wld.same (u1.out _)) | (with_reducible exact Wld.same (u2.out _)) | (with_reducible exact Wld.same (u6.out _)) | (with_reducible exact Wld.same (u7.out _)) | fail) | (go_at_call 96; with_reducible exact Wld.call (v5.out _)) | (go_at_call 122; with_reducible exact Wld.same (pieces_c im _ hi)) | fail))
              refine wpQuiet_nil ?_
              refine Wld.elim ?_
              intro w2 hb2
              clear q0 q1 q2 q3 q4 q5 q6
              go_wp2_with fail
              go_ret
              refine ⟨retB ?_, bl_step HB1 hb2⟩
              simp [hostMay, *]
            · cases a7 : rngB tr 0 8
              · have u1 := Lib.hid (fun W : World => upTo16_c ph 0 7 W)
                rw [a1] at u1
                have u2 := Lib.hid (fun W : World => upTo16_c rp 0 3 W)
                rw [a2] at u2
                have u6 := Lib.hid (fun W : World => upTo16_c bl 0 (manyI im) W)
                rw [a6] at u6
                have u7 := Lib.hid (fun W : World => upTo16_c tr 0 8 W)
                rw [a7] at u7
                have v5 := Lib.hid (fun W : World => rests_c ph im bl ag tr rd rp W)
                rw [a5] at v5
                go_enter Tryz.func61, Tryz.ntmps61
                go_wp2
                generalize w.alloc (.cells #[.int .i64 ph, .string im, .int .i64 bl, .bool ag, .int .i64 tr, .string rd, .int .i64 rp] 30) = w1 at *
                have q0 := fun s : Wld w1 => Wld.cell c0 s
                have q1 := fun s : Wld w1 => Wld.cell c1 s
                have q2 := fun s : Wld w1 => Wld.cell c2 s
                have q3 := fun s : Wld w1 => Wld.cell c3 s
                have q4 := fun s : Wld w1 => Wld.cell c4 s
                have q5 := fun s : Wld w1 => Wld.cell c5 s
                have q6 := fun s : Wld w1 => Wld.cell c6 s
                refine wld_lit (by kernel_rfl) (by kernel_rfl) ?_
                repeat (go_big_quiet_step (first | (go_at_call 121; first | (with_reducible exact Wld.same (u1.out _)) | (with_reducible exact Wld.same (u2.out _)) | (with_reducible exact Wld.same (u6.out _)) | (with_reducible exact Wld.same (u7.out _)) | fail) | (go_at_call 96; with_reducible exact Wld.call (v5.out _)) | (go_at_call 122; with_reducible exact Wld.same (pieces_c im _ hi)) | fail))
                refine wpQuiet_nil ?_
                refine Wld.elim ?_
                intro w2 hb2
                clear q0 q1 q2 q3 q4 q5 q6
                go_wp2_with fail
                go_ret
                refine ⟨retB ?_, bl_step HB1 hb2⟩
                simp [hostMay, *]
              · have u1 := Lib.hid (fun W : World => upTo16_c ph 0 7 W)
                rw [a1] at u1
                have u2 := Lib.hid (fun W : World => upTo16_c rp 0 3 W)
                rw [a2] at u2
                have u6 := Lib.hid (fun W : World => upTo16_c bl 0 (manyI im) W)
                rw [a6] at u6
                have u7 := Lib.hid (fun W : World => upTo16_c tr 0 8 W)
                rw [a7] at u7
                have v5 := Lib.hid (fun W : World => rests_c ph im bl ag tr rd rp W)
                rw [a5] at v5
                go_enter Tryz.func61, Tryz.ntmps61
                go_wp2
                generalize w.alloc (.cells #[.int .i64 ph, .string im, .int .i64 bl, .bool ag, .int .i64 tr, .string rd, .int .i64 rp] 30) = w1 at *
                have q0 := fun s : Wld w1 => Wld.cell c0 s
                have q1 := fun s : Wld w1 => Wld.cell c1 s
                have q2 := fun s : Wld w1 => Wld.cell c2 s
                have q3 := fun s : Wld w1 => Wld.cell c3 s
                have q4 := fun s : Wld w1 => Wld.cell c4 s
                have q5 := fun s : Wld w1 => Wld.cell c5 s
                have q6 := fun s : Wld w1 => Wld.cell c6 s
                refine wld_lit (by kernel_rfl) (by kernel_rfl) ?_
                repeat (go_big_quiet_step (first | (go_at_call 121; first | (with_reducible exact Wld.same (u1.out _)) | (with_reducible exact Wld.same (u2.out _)) | (with_reducible exact Wld.same (u6.out _)) | (with_reducible exact Wld.same (u7.out _)) | fail) | (go_at_call 96; with_reducible exact Wld.call (v5.out _)) | (go_at_call 122; with_reducible exact Wld.same (pieces_c im _ hi)) | fail))
                refine wpQuiet_nil ?_
                refine Wld.elim ?_
                intro w2 hb2
                clear q0 q1 q2 q3 q4 q5 q6
                go_wp2_with fail
                go_ret
                refine ⟨retB ?_, bl_step HB1 hb2⟩
                simp [hostMay, *]
          · cases a6 : rngB bl 0 (manyI im)
            · have u1 := Lib.hid (fun W : World => upTo16_c ph 0 7 W)
              rw [a1] at u1
              have u2 := Lib.hid (fun W : World => upTo16_c rp 0 3 W)
              rw [a2] at u2
              have u6 := Lib.hid (fun W : World => upTo16_c bl 0 (manyI im) W)
              rw [a6] at u6
              have u7 := Lib.hid (fun W : World => upTo16_c tr 0 8 W)
              have v5 := Lib.hid (fun W : World => rests_c ph im bl ag tr rd rp W)
              rw [a5] at v5
              go_enter Tryz.func61, Tryz.ntmps61
              go_wp2
              generalize w.alloc (.cells #[.int .i64 ph, .string im, .int .i64 bl, .bool ag, .int .i64 tr, .string rd, .int .i64 rp] 30) = w1 at *
              have q0 := fun s : Wld w1 => Wld.cell c0 s
              have q1 := fun s : Wld w1 => Wld.cell c1 s
              have q2 := fun s : Wld w1 => Wld.cell c2 s
              have q3 := fun s : Wld w1 => Wld.cell c3 s
              have q4 := fun s : Wld w1 => Wld.cell c4 s
              have q5 := fun s : Wld w1 => Wld.cell c5 s
              have q6 := fun s : Wld w1 => Wld.cell c6 s
              refine wld_lit (by kernel_rfl) (by kernel_rfl) ?_
              repeat (go_big_quiet_step (first | (go_at_call 121; first | (with_reducible exact Wld.same (u1.out _)) | (with_reducible exact Wld.same (u2.out _)) | (with_reducible exact Wld.same (u6.out _)) | (with_reducible exact Wld.same (u7.out _)) | fail) | (go_at_call 96; with_reducible exact Wld.call (v5.out _)) | (go_at_call 122; with_reducible exact Wld.same (pieces_c im _ hi)) | fail))
              refine wpQuiet_nil ?_
              refine Wld.elim ?_
              intro w2 hb2
              clear q0 q1 q2 q3 q4 q5 q6
              go_wp2_with fail
              go_ret
              refine ⟨retB ?_, bl_step HB1 hb2⟩
              simp [hostMay, *]
            · cases a7 : rngB tr 0 8
              · have u1 := Lib.hid (fun W : World => upTo16_c ph 0 7 W)
                rw [a1] at u1
                have u2 := Lib.hid (fun W : World => upTo16_c rp 0 3 W)
                rw [a2] at u2
                have u6 := Lib.hid (fun W : World => upTo16_c bl 0 (manyI im) W)
                rw [a6] at u6
                have u7 := Lib.hid (fun W : World => upTo16_c tr 0 8 W)
                rw [a7] at u7
                have v5 := Lib.hid (fun W : World => rests_c ph im bl ag tr rd rp W)
                rw [a5] at v5
                go_enter Tryz.func61, Tryz.ntmps61
                go_wp2
                generalize w.alloc (.cells #[.int .i64 ph, .string im, .int .i64 bl, .bool ag, .int .i64 tr, .string rd, .int .i64 rp] 30) = w1 at *
                have q0 := fun s : Wld w1 => Wld.cell c0 s
                have q1 := fun s : Wld w1 => Wld.cell c1 s
                have q2 := fun s : Wld w1 => Wld.cell c2 s
                have q3 := fun s : Wld w1 => Wld.cell c3 s
                have q4 := fun s : Wld w1 => Wld.cell c4 s
                have q5 := fun s : Wld w1 => Wld.cell c5 s
                have q6 := fun s : Wld w1 => Wld.cell c6 s
                refine wld_lit (by kernel_rfl) (by kernel_rfl) ?_
                repeat (go_big_quiet_step (first | (go_at_call 121; first | (with_reducible exact Wld.same (u1.out _)) | (with_reducible exact Wld.same (u2.out _)) | (with_reducible exact Wld.same (u6.out _)) | (with_reducible exact Wld.same (u7.out _)) | fail) | (go_at_call 96; with_reducible exact Wld.call (v5.out _)) | (go_at_call 122; with_reducible exact Wld.same (pieces_c im _ hi)) | fail))
                refine wpQuiet_nil ?_
                refine Wld.elim ?_
                intro w2 hb2
                clear q0 q1 q2 q3 q4 q5 q6
                go_wp2_with fail
                go_ret
                refine ⟨retB ?_, bl_step HB1 hb2⟩
                simp [hostMay, *]
              · have u1 := Lib.hid (fun W : World => upTo16_c ph 0 7 W)
                rw [a1] at u1
                have u2 := Lib.hid (fun W : World => upTo16_c rp 0 3 W)
                rw [a2] at u2
                have u6 := Lib.hid (fun W : World => upTo16_c bl 0 (manyI im) W)
                rw [a6] at u6
                have u7 := Lib.hid (fun W : World => upTo16_c tr 0 8 W)
                rw [a7] at u7
                have v5 := Lib.hid (fun W : World => rests_c ph im bl ag tr rd rp W)
                rw [a5] at v5
                go_enter Tryz.func61, Tryz.ntmps61
                go_wp2
                generalize w.alloc (.cells #[.int .i64 ph, .string im, .int .i64 bl, .bool ag, .int .i64 tr, .string rd, .int .i64 rp] 30) = w1 at *
                have q0 := fun s : Wld w1 => Wld.cell c0 s
                have q1 := fun s : Wld w1 => Wld.cell c1 s
                have q2 := fun s : Wld w1 => Wld.cell c2 s
                have q3 := fun s : Wld w1 => Wld.cell c3 s
                have q4 := fun s : Wld w1 => Wld.cell c4 s
                have q5 := fun s : Wld w1 => Wld.cell c5 s
                have q6 := fun s : Wld w1 => Wld.cell c6 s
                refine wld_lit (by kernel_rfl) (by kernel_rfl) ?_
                repeat (go_big_quiet_step (first | (go_at_call 121; first | (with_reducible exact Wld.same (u1.out _)) | (with_reducible exact Wld.same (u2.out _)) | (with_reducible exact Wld.same (u6.out _)) | (with_reducible exact Wld.same (u7.out _)) | fail) | (go_at_call 96; with_reducible exact Wld.call (v5.out _)) | (go_at_call 122; with_reducible exact Wld.same (pieces_c im _ hi)) | fail))
                refine wpQuiet_nil ?_
                refine Wld.elim ?_
                intro w2 hb2
                clear q0 q1 q2 q3 q4 q5 q6
                go_wp2_with fail
                go_ret
                refine ⟨retB ?_, bl_step HB1 hb2⟩
                simp [hostMay, *]
        · cases a5 : offB ph
          · have u1 := Lib.hid (fun W : World => upTo16_c ph 0 7 W)
            rw [a1] at u1
            have u2 := Lib.hid (fun W : World => upTo16_c rp 0 3 W)
            rw [a2] at u2
            have u6 := Lib.hid (fun W : World => upTo16_c bl 0 (manyI im) W)
            have u7 := Lib.hid (fun W : World => upTo16_c tr 0 8 W)
            have v5 := Lib.hid (fun W : World => rests_c ph im bl ag tr rd rp W)
            rw [a5] at v5
            go_enter Tryz.func61, Tryz.ntmps61
            go_wp2
            generalize w.alloc (.cells #[.int .i64 ph, .string im, .int .i64 bl, .bool ag, .int .i64 tr, .string rd, .int .i64 rp] 30) = w1 at *
            have q0 := fun s : Wld w1 => Wld.cell c0 s
            have q1 := fun s : Wld w1 => Wld.cell c1 s
            have q2 := fun s : Wld w1 => Wld.cell c2 s
            have q3 := fun s : Wld w1 => Wld.cell c3 s
            have q4 := fun s : Wld w1 => Wld.cell c4 s
            have q5 := fun s : Wld w1 => Wld.cell c5 s
            have q6 := fun s : Wld w1 => Wld.cell c6 s
            refine wld_lit (by kernel_rfl) (by kernel_rfl) ?_
            repeat (go_big_quiet_step (first | (go_at_call 121; first | (with_reducible exact Wld.same (u1.out _)) | (with_reducible exact Wld.same (u2.out _)) | (with_reducible exact Wld.same (u6.out _)) | (with_reducible exact Wld.same (u7.out _)) | fail) | (go_at_call 96; with_reducible exact Wld.call (v5.out _)) | (go_at_call 122; with_reducible exact Wld.same (pieces_c im _ hi)) | fail))
            refine wpQuiet_nil ?_
            refine Wld.elim ?_
            intro w2 hb2
            clear q0 q1 q2 q3 q4 q5 q6
            go_wp2_with fail
            go_ret
            refine ⟨retB ?_, bl_step HB1 hb2⟩
            simp [hostMay, *]
          · cases a6 : rngB bl 0 (manyI im)
            · have u1 := Lib.hid (fun W : World => upTo16_c ph 0 7 W)
              rw [a1] at u1
              have u2 := Lib.hid (fun W : World => upTo16_c rp 0 3 W)
              rw [a2] at u2
              have u6 := Lib.hid (fun W : World => upTo16_c bl 0 (manyI im) W)
              rw [a6] at u6
              have u7 := Lib.hid (fun W : World => upTo16_c tr 0 8 W)
              have v5 := Lib.hid (fun W : World => rests_c ph im bl ag tr rd rp W)
              rw [a5] at v5
              go_enter Tryz.func61, Tryz.ntmps61
              go_wp2
              generalize w.alloc (.cells #[.int .i64 ph, .string im, .int .i64 bl, .bool ag, .int .i64 tr, .string rd, .int .i64 rp] 30) = w1 at *
              have q0 := fun s : Wld w1 => Wld.cell c0 s
              have q1 := fun s : Wld w1 => Wld.cell c1 s
              have q2 := fun s : Wld w1 => Wld.cell c2 s
              have q3 := fun s : Wld w1 => Wld.cell c3 s
              have q4 := fun s : Wld w1 => Wld.cell c4 s
              have q5 := fun s : Wld w1 => Wld.cell c5 s
              have q6 := fun s : Wld w1 => Wld.cell c6 s
              refine wld_lit (by kernel_rfl) (by kernel_rfl) ?_
              repeat (go_big_quiet_step (first | (go_at_call 121; first | (with_reducible exact Wld.same (u1.out _)) | (with_reducible exact Wld.same (u2.out _)) | (with_reducible exact Wld.same (u6.out _)) | (with_reducible exact Wld.same (u7.out _)) | fail) | (go_at_call 96; with_reducible exact Wld.call (v5.out _)) | (go_at_call 122; with_reducible exact Wld.same (pieces_c im _ hi)) | fail))
              refine wpQuiet_nil ?_
              refine Wld.elim ?_
              intro w2 hb2
              clear q0 q1 q2 q3 q4 q5 q6
              go_wp2_with fail
              go_ret
              refine ⟨retB ?_, bl_step HB1 hb2⟩
              simp [hostMay, *]
            · cases a7 : rngB tr 0 8
              · have u1 := Lib.hid (fun W : World => upTo16_c ph 0 7 W)
                rw [a1] at u1
                have u2 := Lib.hid (fun W : World => upTo16_c rp 0 3 W)
                rw [a2] at u2
                have u6 := Lib.hid (fun W : World => upTo16_c bl 0 (manyI im) W)
                rw [a6] at u6
                have u7 := Lib.hid (fun W : World => upTo16_c tr 0 8 W)
                rw [a7] at u7
                have v5 := Lib.hid (fun W : World => rests_c ph im bl ag tr rd rp W)
                rw [a5] at v5
                go_enter Tryz.func61, Tryz.ntmps61
                go_wp2
                generalize w.alloc (.cells #[.int .i64 ph, .string im, .int .i64 bl, .bool ag, .int .i64 tr, .string rd, .int .i64 rp] 30) = w1 at *
                have q0 := fun s : Wld w1 => Wld.cell c0 s
                have q1 := fun s : Wld w1 => Wld.cell c1 s
                have q2 := fun s : Wld w1 => Wld.cell c2 s
                have q3 := fun s : Wld w1 => Wld.cell c3 s
                have q4 := fun s : Wld w1 => Wld.cell c4 s
                have q5 := fun s : Wld w1 => Wld.cell c5 s
                have q6 := fun s : Wld w1 => Wld.cell c6 s
                refine wld_lit (by kernel_rfl) (by kernel_rfl) ?_
                repeat (go_big_quiet_step (first | (go_at_call 121; first | (with_reducible exact Wld.same (u1.out _)) | (with_reducible exact Wld.same (u2.out _)) | (with_reducible exact Wld.same (u6.out _)) | (with_reducible exact Wld.same (u7.out _)) | fail) | (go_at_call 96; with_reducible exact Wld.call (v5.out _)) | (go_at_call 122; with_reducible exact Wld.same (pieces_c im _ hi)) | fail))
                refine wpQuiet_nil ?_
                refine Wld.elim ?_
                intro w2 hb2
                clear q0 q1 q2 q3 q4 q5 q6
                go_wp2_with fail
                go_ret
                refine ⟨retB ?_, bl_step HB1 hb2⟩
                simp [hostMay, *]
              · have u1 := Lib.hid (fun W : World => upTo16_c ph 0 7 W)
                rw [a1] at u1
                have u2 := Lib.hid (fun W : World => upTo16_c rp 0 3 W)
                rw [a2] at u2
                have u6 := Lib.hid (fun W : World => upTo16_c bl 0 (manyI im) W)
                rw [a6] at u6
                have u7 := Lib.hid (fun W : World => upTo16_c tr 0 8 W)
                rw [a7] at u7
                have v5 := Lib.hid (fun W : World => rests_c ph im bl ag tr rd rp W)
                rw [a5] at v5
                go_enter Tryz.func61, Tryz.ntmps61
                go_wp2
                generalize w.alloc (.cells #[.int .i64 ph, .string im, .int .i64 bl, .bool ag, .int .i64 tr, .string rd, .int .i64 rp] 30) = w1 at *
                have q0 := fun s : Wld w1 => Wld.cell c0 s
                have q1 := fun s : Wld w1 => Wld.cell c1 s
                have q2 := fun s : Wld w1 => Wld.cell c2 s
                have q3 := fun s : Wld w1 => Wld.cell c3 s
                have q4 := fun s : Wld w1 => Wld.cell c4 s
                have q5 := fun s : Wld w1 => Wld.cell c5 s
                have q6 := fun s : Wld w1 => Wld.cell c6 s
                refine wld_lit (by kernel_rfl) (by kernel_rfl) ?_
                repeat (go_big_quiet_step (first | (go_at_call 121; first | (with_reducible exact Wld.same (u1.out _)) | (with_reducible exact Wld.same (u2.out _)) | (with_reducible exact Wld.same (u6.out _)) | (with_reducible exact Wld.same (u7.out _)) | fail) | (go_at_call 96; with_reducible exact Wld.call (v5.out _)) | (go_at_call 122; with_reducible exact Wld.same (pieces_c im _ hi)) | fail))
                refine wpQuiet_nil ?_
                refine Wld.elim ?_
                intro w2 hb2
                clear q0 q1 q2 q3 q4 q5 q6
                go_wp2_with fail
                go_ret
                refine ⟨retB ?_, bl_step HB1 hb2⟩
                simp [hostMay, *]
      · have b3 : (288 : Int) < (im.size : Int) := by omega
        have d3 : 288 < im.size := by omega
        have e3 : decide ((im.size : Int) ≤ 288) = false := by simp; omega
        have u1 := Lib.hid (fun W : World => upTo16_c ph 0 7 W)
        rw [a1] at u1
        have u2 := Lib.hid (fun W : World => upTo16_c rp 0 3 W)
        rw [a2] at u2
        have u6 := Lib.hid (fun W : World => upTo16_c bl 0 (manyI im) W)
        have u7 := Lib.hid (fun W : World => upTo16_c tr 0 8 W)
        have v5 := Lib.hid (fun W : World => rests_c ph im bl ag tr rd rp W)
        go_enter Tryz.func61, Tryz.ntmps61
        go_wp2
        generalize w.alloc (.cells #[.int .i64 ph, .string im, .int .i64 bl, .bool ag, .int .i64 tr, .string rd, .int .i64 rp] 30) = w1 at *
        have q0 := fun s : Wld w1 => Wld.cell c0 s
        have q1 := fun s : Wld w1 => Wld.cell c1 s
        have q2 := fun s : Wld w1 => Wld.cell c2 s
        have q3 := fun s : Wld w1 => Wld.cell c3 s
        have q4 := fun s : Wld w1 => Wld.cell c4 s
        have q5 := fun s : Wld w1 => Wld.cell c5 s
        have q6 := fun s : Wld w1 => Wld.cell c6 s
        refine wld_lit (by kernel_rfl) (by kernel_rfl) ?_
        repeat (go_big_quiet_step (first | (go_at_call 121; first | (with_reducible exact Wld.same (u1.out _)) | (with_reducible exact Wld.same (u2.out _)) | (with_reducible exact Wld.same (u6.out _)) | (with_reducible exact Wld.same (u7.out _)) | fail) | (go_at_call 96; with_reducible exact Wld.call (v5.out _)) | (go_at_call 122; with_reducible exact Wld.same (pieces_c im _ hi)) | fail))
        refine wpQuiet_nil ?_
        refine Wld.elim ?_
        intro w2 hb2
        clear q0 q1 q2 q3 q4 q5 q6
        go_wp2_with fail
        go_ret
        refine ⟨retB ?_, bl_step HB1 hb2⟩
        simp [hostMay, *]
end Go.Proofs.YtccblleobcidfaaGreat.Ho
