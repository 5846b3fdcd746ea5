/- Layer 22: hosts: what the program's May answers. -/
import Derived.Test.YtccblleobcidfaaGreatGu
import Derived.Deep.QuietTactic
import Derived.BigQuiet
namespace Go.Proofs.YtccblleobcidfaaGreat.Ho
open Go.RowKit Go.Proofs.YtccblleobcidfaaGreat.Kt Go.Proofs.YtccblleobcidfaaGreat.Nm
set_option linter.unusedVariables false
set_option linter.unusedSimpArgs false
set_option maxHeartbeats 6400000 in
theorem hmay_c (ph : Int) (im : ByteArray) (bl : Int) (ag : Bool) (tr : Int) (rd : ByteArray) (rp : Int) (w : World) (hi : im.size ≤ 1000000000000000) (hr : rd.size ≤ 1000000000000000) :
    Calls Tryz.prog 105 #[hostV ph im bl ag tr rd rp] w fun e w' => e = .returned (.bool (hostMay ph im bl tr rd rp)) ∧ Below w.heap.size w w' := by
  have K0 := Blk.new w #[.int .i64 ph, .string im, .int .i64 bl, .bool ag, .int .i64 tr, .string rd, .int .i64 rp] 30
  have HB1 := bl_alloc (Below.refl w.heap.size w) (.cells #[.int .i64 ph, .string im, .int .i64 bl, .bool ag, .int .i64 tr, .string rd, .int .i64 rp] 30)
  obtain ⟨c0, c1, c2, c3, c4, c5, c6, _⟩ := Blk.all7 K0
  clear K0
  cases a1 : rngB ph 0 7
  · go_enter Tryz.func105, Tryz.ntmps105
    go_wp2
    generalize w.alloc (.cells #[.int .i64 ph, .string im, .int .i64 bl, .bool ag, .int .i64 tr, .string rd, .int .i64 rp] 30) = w1 at *
    go_quiet (first | (go_at_call 176; exact Calls.quiet_of_same ((hin_c _ _ _).mono fun _ _ h => ⟨h.1, h.2.symm⟩)) | (go_at_call 155; exact Calls.quiet_of_same ((off_c _ ph _ (by exact c0)).mono fun _ _ h => ⟨h.1, h.2.symm⟩)) | (go_at_call 177; exact Calls.quiet_of_same ((hmany_c _ im _ (by exact c1) hi).mono fun _ _ h => ⟨h.1, h.2.symm⟩)) | fail)
    go_wp2_with fail
    go_ret
    refine ⟨retB ?_, zq1⟩
    simp [hostMay, *]
  · cases a2 : rngB rp 0 3
    · go_enter Tryz.func105, Tryz.ntmps105
      go_wp2
      generalize w.alloc (.cells #[.int .i64 ph, .string im, .int .i64 bl, .bool ag, .int .i64 tr, .string rd, .int .i64 rp] 30) = w1 at *
      go_quiet (first | (go_at_call 176; exact Calls.quiet_of_same ((hin_c _ _ _).mono fun _ _ h => ⟨h.1, h.2.symm⟩)) | (go_at_call 155; exact Calls.quiet_of_same ((off_c _ ph _ (by exact c0)).mono fun _ _ h => ⟨h.1, h.2.symm⟩)) | (go_at_call 177; exact Calls.quiet_of_same ((hmany_c _ im _ (by exact c1) hi).mono fun _ _ h => ⟨h.1, h.2.symm⟩)) | fail)
      go_wp2_with fail
      go_ret
      refine ⟨retB ?_, zq1⟩
      simp [hostMay, *]
    · by_cases a3 : (im.size : Int) ≤ 288
      · have b3 : im.size ≤ 288 := by omega
        cases a4 : im.toList.isEmpty
        · cases a6 : rngB bl 0 (manyI im)
          · go_enter Tryz.func105, Tryz.ntmps105
            go_wp2
            generalize w.alloc (.cells #[.int .i64 ph, .string im, .int .i64 bl, .bool ag, .int .i64 tr, .string rd, .int .i64 rp] 30) = w1 at *
            go_quiet (first | (go_at_call 176; exact Calls.quiet_of_same ((hin_c _ _ _).mono fun _ _ h => ⟨h.1, h.2.symm⟩)) | (go_at_call 155; exact Calls.quiet_of_same ((off_c _ ph _ (by exact c0)).mono fun _ _ h => ⟨h.1, h.2.symm⟩)) | (go_at_call 177; exact Calls.quiet_of_same ((hmany_c _ im _ (by exact c1) hi).mono fun _ _ h => ⟨h.1, h.2.symm⟩)) | fail)
            go_wp2_with fail
            go_ret
            refine ⟨retB ?_, zq1⟩
            simp [hostMay, *]
          · cases a7 : rngB tr 0 8
            · go_enter Tryz.func105, Tryz.ntmps105
              go_wp2
              generalize w.alloc (.cells #[.int .i64 ph, .string im, .int .i64 bl, .bool ag, .int .i64 tr, .string rd, .int .i64 rp] 30) = w1 at *
              go_quiet (first | (go_at_call 176; exact Calls.quiet_of_same ((hin_c _ _ _).mono fun _ _ h => ⟨h.1, h.2.symm⟩)) | (go_at_call 155; exact Calls.quiet_of_same ((off_c _ ph _ (by exact c0)).mono fun _ _ h => ⟨h.1, h.2.symm⟩)) | (go_at_call 177; exact Calls.quiet_of_same ((hmany_c _ im _ (by exact c1) hi).mono fun _ _ h => ⟨h.1, h.2.symm⟩)) | fail)
              go_wp2_with fail
              go_ret
              refine ⟨retB ?_, zq1⟩
              simp [hostMay, *]
            · go_enter Tryz.func105, Tryz.ntmps105
              go_wp2
              generalize w.alloc (.cells #[.int .i64 ph, .string im, .int .i64 bl, .bool ag, .int .i64 tr, .string rd, .int .i64 rp] 30) = w1 at *
              go_quiet (first | (go_at_call 176; exact Calls.quiet_of_same ((hin_c _ _ _).mono fun _ _ h => ⟨h.1, h.2.symm⟩)) | (go_at_call 155; exact Calls.quiet_of_same ((off_c _ ph _ (by exact c0)).mono fun _ _ h => ⟨h.1, h.2.symm⟩)) | (go_at_call 177; exact Calls.quiet_of_same ((hmany_c _ im _ (by exact c1) hi).mono fun _ _ h => ⟨h.1, h.2.symm⟩)) | fail)
              go_wp2_with fail
              go_ret
              refine ⟨retB ?_, zq1⟩
              simp [hostMay, *]
        · cases a5 : offB ph
          · go_enter Tryz.func105, Tryz.ntmps105
            go_wp2
            generalize w.alloc (.cells #[.int .i64 ph, .string im, .int .i64 bl, .bool ag, .int .i64 tr, .string rd, .int .i64 rp] 30) = w1 at *
            go_quiet (first | (go_at_call 176; exact Calls.quiet_of_same ((hin_c _ _ _).mono fun _ _ h => ⟨h.1, h.2.symm⟩)) | (go_at_call 155; exact Calls.quiet_of_same ((off_c _ ph _ (by exact c0)).mono fun _ _ h => ⟨h.1, h.2.symm⟩)) | (go_at_call 177; exact Calls.quiet_of_same ((hmany_c _ im _ (by exact c1) hi).mono fun _ _ h => ⟨h.1, h.2.symm⟩)) | fail)
            go_wp2_with fail
            go_ret
            refine ⟨retB ?_, zq1⟩
            simp [hostMay, *]
          · cases a6 : rngB bl 0 (manyI im)
            · go_enter Tryz.func105, Tryz.ntmps105
              go_wp2
              generalize w.alloc (.cells #[.int .i64 ph, .string im, .int .i64 bl, .bool ag, .int .i64 tr, .string rd, .int .i64 rp] 30) = w1 at *
              go_quiet (first | (go_at_call 176; exact Calls.quiet_of_same ((hin_c _ _ _).mono fun _ _ h => ⟨h.1, h.2.symm⟩)) | (go_at_call 155; exact Calls.quiet_of_same ((off_c _ ph _ (by exact c0)).mono fun _ _ h => ⟨h.1, h.2.symm⟩)) | (go_at_call 177; exact Calls.quiet_of_same ((hmany_c _ im _ (by exact c1) hi).mono fun _ _ h => ⟨h.1, h.2.symm⟩)) | fail)
              go_wp2_with fail
              go_ret
              refine ⟨retB ?_, zq1⟩
              simp [hostMay, *]
            · cases a7 : rngB tr 0 8
              · go_enter Tryz.func105, Tryz.ntmps105
                go_wp2
                generalize w.alloc (.cells #[.int .i64 ph, .string im, .int .i64 bl, .bool ag, .int .i64 tr, .string rd, .int .i64 rp] 30) = w1 at *
                go_quiet (first | (go_at_call 176; exact Calls.quiet_of_same ((hin_c _ _ _).mono fun _ _ h => ⟨h.1, h.2.symm⟩)) | (go_at_call 155; exact Calls.quiet_of_same ((off_c _ ph _ (by exact c0)).mono fun _ _ h => ⟨h.1, h.2.symm⟩)) | (go_at_call 177; exact Calls.quiet_of_same ((hmany_c _ im _ (by exact c1) hi).mono fun _ _ h => ⟨h.1, h.2.symm⟩)) | fail)
                go_wp2_with fail
                go_ret
                refine ⟨retB ?_, zq1⟩
                simp [hostMay, *]
              · go_enter Tryz.func105, Tryz.ntmps105
                go_wp2
                generalize w.alloc (.cells #[.int .i64 ph, .string im, .int .i64 bl, .bool ag, .int .i64 tr, .string rd, .int .i64 rp] 30) = w1 at *
                go_quiet (first | (go_at_call 176; exact Calls.quiet_of_same ((hin_c _ _ _).mono fun _ _ h => ⟨h.1, h.2.symm⟩)) | (go_at_call 155; exact Calls.quiet_of_same ((off_c _ ph _ (by exact c0)).mono fun _ _ h => ⟨h.1, h.2.symm⟩)) | (go_at_call 177; exact Calls.quiet_of_same ((hmany_c _ im _ (by exact c1) hi).mono fun _ _ h => ⟨h.1, h.2.symm⟩)) | fail)
                go_wp2_with fail
                go_ret
                refine ⟨retB ?_, zq1⟩
                simp [hostMay, *]
      · have b3 : (288 : Int) < (im.size : Int) := by omega
        have d3 : 288 < im.size := by omega
        have e3 : decide ((im.size : Int) ≤ 288) = false := by simp; omega
        go_enter Tryz.func105, Tryz.ntmps105
        go_wp2
        generalize w.alloc (.cells #[.int .i64 ph, .string im, .int .i64 bl, .bool ag, .int .i64 tr, .string rd, .int .i64 rp] 30) = w1 at *
        go_quiet (first | (go_at_call 176; exact Calls.quiet_of_same ((hin_c _ _ _).mono fun _ _ h => ⟨h.1, h.2.symm⟩)) | (go_at_call 155; exact Calls.quiet_of_same ((off_c _ ph _ (by exact c0)).mono fun _ _ h => ⟨h.1, h.2.symm⟩)) | (go_at_call 177; exact Calls.quiet_of_same ((hmany_c _ im _ (by exact c1) hi).mono fun _ _ h => ⟨h.1, h.2.symm⟩)) | fail)
        go_wp2_with fail
        go_ret
        refine ⟨retB ?_, zq1⟩
        simp [hostMay, *]
end Go.Proofs.YtccblleobcidfaaGreat.Ho
