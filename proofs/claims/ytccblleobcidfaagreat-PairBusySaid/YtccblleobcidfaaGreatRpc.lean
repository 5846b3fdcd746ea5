/- Layer 23: replies: the program's Take. -/
import Derived.Test.YtccblleobcidfaaGreatGw
import Derived.Test.YtccblleobcidfaaGreatGn
namespace Go.Proofs.YtccblleobcidfaaGreat.Rp
open Go.RowKit Go.Proofs.YtccblleobcidfaaGreat.Kt Go.Proofs.YtccblleobcidfaaGreat.Lw Go.Proofs.YtccblleobcidfaaGreat.St Go.Proofs.YtccblleobcidfaaGreat.Nm Go.Proofs.YtccblleobcidfaaGreat.An Go.Proofs.YtccblleobcidfaaGreat.Ho Go.Proofs.YtccblleobcidfaaGreat.Mp
set_option linter.unusedVariables false
set_option linter.unusedSimpArgs false
set_option maxRecDepth 100000 in
set_option maxHeartbeats 12800000 in
theorem take_c (h : HS) (lost stall : Bool) (s : ByteArray) (w : World) (hi : h.im.size ≤ 1000000000000000) (hr : h.rd.size ≤ 1000000000000000) (hs0 : s.size ≤ 140737488351232) :
    Calls Tryz.prog 157 #[hostV h.ph h.im h.bl h.ag h.tr h.rd h.rp, .agg #[.bool lost, .bool stall, .string s]] w fun e w' => e = .returned (takeV h lost stall s) ∧ Below w.heap.size w w' := by
  have HB := Below.refl w.heap.size w
  have K0 := Blk.new w #[.int .i64 h.ph, .string h.im, .int .i64 h.bl, .bool h.ag, .int .i64 h.tr, .string h.rd, .int .i64 h.rp] 30
  have K1 := Blk.new1 w (.cells #[.int .i64 h.ph, .string h.im, .int .i64 h.bl, .bool h.ag, .int .i64 h.tr, .string h.rd, .int .i64 h.rp] 30) #[.bool lost, .bool stall, .string s] 107
  have K2 := Blk.new2 w (.cells #[.int .i64 h.ph, .string h.im, .int .i64 h.bl, .bool h.ag, .int .i64 h.tr, .string h.rd, .int .i64 h.rp] 30) (.cells #[.bool lost, .bool stall, .string s] 107) #[.int .i64 0, .string ⟨#[]⟩, .int .i64 0, .bool false, .int .i64 0, .string ⟨#[]⟩, .int .i64 0] 30
  cases hon : h.on
  · have hv : takeV h lost stall s = .tuple #[hostV 0 ⟨#[]⟩ 0 false 0 ⟨#[]⟩ 0, .int .i64 2300] := by simp [takeV, hon]
    rw [hv]
    cases hm : hostMay h.ph h.im h.bl h.tr h.rd h.rp
    · have mm := Lib.hid (fun W : World => hmay_c h.ph h.im h.bl h.ag h.tr h.rd h.rp W hi hr)
      rw [hm] at mm
      clear hon hv hm
      go_enter Tryz.func157, Tryz.ntmps157
      go_wp2_with (first | (go_at_call 105; with_reducible refine (mm.out _).mono ?_; rintro e w' ⟨rfl, hb⟩; have HB := bl_step (w := w) zq0 hb; have hzB := HB.size; have K0 := Blk.on zq3 zq2 hb; (try clear cK0_0 cK0_1 cK0_2 cK0_3 cK0_4 cK0_5 cK0_6 fK0 lK0 nK0 mK0); obtain ⟨cK0_0, cK0_1, cK0_2, cK0_3, cK0_4, cK0_5, cK0_6, fK0, lK0, nK0, mK0⟩ := Blk.all7 K0; have K1 := Blk.on zq6 zq17 hb; (try clear cK1_0 cK1_1 cK1_2 fK1 lK1 nK1 mK1); obtain ⟨cK1_0, cK1_1, cK1_2, fK1, lK1, nK1, mK1⟩ := Blk.all3 K1; have K2 := Blk.on zq15 zq13 hb; (try clear cK2_0 cK2_1 cK2_2 cK2_3 cK2_4 cK2_5 cK2_6 fK2 lK2 nK2 mK2); obtain ⟨cK2_0, cK2_1, cK2_2, cK2_3, cK2_4, cK2_5, cK2_6, fK2, lK2, nK2, mK2⟩ := Blk.all7 K2) | fail)
      exact bodyPost_ret (v := .tuple #[hostV 0 ⟨#[]⟩ 0 false 0 ⟨#[]⟩ 0, .int .i64 2300]) (by simp [results, Tryz.results157, go_sem, *]) rfl ⟨rfl, zq1⟩
    · have ho : offB h.ph = true := by
        cases q : offB h.ph
        · simp [HS.on, HS.may, hm, q] at hon
        · rfl
      have mm := Lib.hid (fun W : World => hmay_c h.ph h.im h.bl h.ag h.tr h.rd h.rp W hi hr)
      rw [hm] at mm
      clear hon hv hm
      go_enter Tryz.func157, Tryz.ntmps157
      go_wp2_with (first | (go_at_call 105; with_reducible refine (mm.out _).mono ?_; rintro e w' ⟨rfl, hb⟩; have HB := bl_step (w := w) zq0 hb; have hzB := HB.size; have K0 := Blk.on zq3 zq2 hb; (try clear cK0_0 cK0_1 cK0_2 cK0_3 cK0_4 cK0_5 cK0_6 fK0 lK0 nK0 mK0); obtain ⟨cK0_0, cK0_1, cK0_2, cK0_3, cK0_4, cK0_5, cK0_6, fK0, lK0, nK0, mK0⟩ := Blk.all7 K0; have K1 := Blk.on zq6 zq17 hb; (try clear cK1_0 cK1_1 cK1_2 fK1 lK1 nK1 mK1); obtain ⟨cK1_0, cK1_1, cK1_2, fK1, lK1, nK1, mK1⟩ := Blk.all3 K1; have K2 := Blk.on zq15 zq13 hb; (try clear cK2_0 cK2_1 cK2_2 cK2_3 cK2_4 cK2_5 cK2_6 fK2 lK2 nK2 mK2); obtain ⟨cK2_0, cK2_1, cK2_2, cK2_3, cK2_4, cK2_5, cK2_6, fK2, lK2, nK2, mK2⟩ := Blk.all7 K2) | (go_at_call 155; with_reducible refine (off_c _ _ _ cK0_0).mono ?_; rintro e w' ⟨rfl, rfl⟩) | fail)
      exact bodyPost_ret (v := .tuple #[hostV 0 ⟨#[]⟩ 0 false 0 ⟨#[]⟩ 0, .int .i64 2300]) (by simp [results, Tryz.results157, go_sem, *]) rfl ⟨rfl, zq1⟩
  · have hm : hostMay h.ph h.im h.bl h.tr h.rd h.rp = true := by
      cases q : hostMay h.ph h.im h.bl h.tr h.rd h.rp
      · simp [HS.on, HS.may, q] at hon
      · rfl
    have ho : offB h.ph = false := by
      cases q : offB h.ph
      · rfl
      · simp [HS.on, q] at hon
    have ok : h.Ok := (HS.on_iff h).1 hon
    have hv : takeV h lost stall s = .tuple #[(takeH h lost stall s).v, .int .i64 0] := by simp [takeV, hon]
    rw [hv]
    have mm := Lib.hid (fun W : World => hmay_c h.ph h.im h.bl h.ag h.tr h.rd h.rp W hi hr)
    rw [hm] at mm
    clear hon hv hm
    obtain ⟨ph0, ph1, _⟩ := id ok
    go_enter Tryz.func157, Tryz.ntmps157
    go_upto_region 4 with (first | (go_at_call 105; with_reducible refine (mm.out _).mono ?_; rintro e w' ⟨rfl, hb⟩; have HB := bl_step (w := w) zq0 hb; have hzB := HB.size; have K0 := Blk.on zq3 zq2 hb; (try clear cK0_0 cK0_1 cK0_2 cK0_3 cK0_4 cK0_5 cK0_6 fK0 lK0 nK0 mK0); obtain ⟨cK0_0, cK0_1, cK0_2, cK0_3, cK0_4, cK0_5, cK0_6, fK0, lK0, nK0, mK0⟩ := Blk.all7 K0; have K1 := Blk.on zq6 zq17 hb; (try clear cK1_0 cK1_1 cK1_2 fK1 lK1 nK1 mK1); obtain ⟨cK1_0, cK1_1, cK1_2, fK1, lK1, nK1, mK1⟩ := Blk.all3 K1; have K2 := Blk.on zq15 zq13 hb; (try clear cK2_0 cK2_1 cK2_2 cK2_3 cK2_4 cK2_5 cK2_6 fK2 lK2 nK2 mK2); obtain ⟨cK2_0, cK2_1, cK2_2, cK2_3, cK2_4, cK2_5, cK2_6, fK2, lK2, nK2, mK2⟩ := Blk.all7 K2) | (go_at_call 155; with_reducible refine (off_c _ _ _ cK0_0).mono ?_; rintro e w' ⟨rfl, rfl⟩) | fail)
    have K3 := Blk.new w' #[.int .i64 h.ph, .string h.im, .int .i64 h.bl, .bool h.ag, .int .i64 h.tr, .string h.rd, .int .i64 h.rp] 251
    have K0 := K0.alloc (.cells #[.int .i64 h.ph, .string h.im, .int .i64 h.bl, .bool h.ag, .int .i64 h.tr, .string h.rd, .int .i64 h.rp] 251)
    have K1 := K1.alloc (.cells #[.int .i64 h.ph, .string h.im, .int .i64 h.bl, .bool h.ag, .int .i64 h.tr, .string h.rd, .int .i64 h.rp] 251)
    have K2 := K2.alloc (.cells #[.int .i64 h.ph, .string h.im, .int .i64 h.bl, .bool h.ag, .int .i64 h.tr, .string h.rd, .int .i64 h.rp] 251)
    have HB := bl_alloc HB (.cells #[.int .i64 h.ph, .string h.im, .int .i64 h.bl, .bool h.ag, .int .i64 h.tr, .string h.rd, .int .i64 h.rp] 251)
    have hg2 : w.heap.size + 2 < w'.heap.size := lK2
    clear cK0_0 cK0_1 cK0_2 cK0_3 cK0_4 cK0_5 cK0_6 fK0 lK0 nK0 mK0 cK1_0 cK1_1 cK1_2 fK1 lK1 nK1 mK1 cK2_0 cK2_1 cK2_2 cK2_3 cK2_4 cK2_5 cK2_6 fK2 lK2 nK2 mK2 hb hzB mm
    generalize w'.alloc (.cells #[.int .i64 h.ph, .string h.im, .int .i64 h.bl, .bool h.ag, .int .i64 h.tr, .string h.rd, .int .i64 h.rp] 251) = w3 at *
    generalize w'.heap.size = g3 at *
    have hg3 := K3.lt
    have hmk : ∀ W : World, (Instr.makeMap 253 none).run Tryz.prog W = .ok (.map (some W.heap.size)) (W.alloc (.map #[] 0)) := fun W => rfl
    have M0 := MapAt.new w3
    obtain ⟨w4, hr1, M1, hi1⟩ := insert_run (t := 253) (key := .int .i64 1) (val := (.func (.func 206) #[.pointer (some ⟨g3, 0, none⟩)] #[])) Tryz.underlying253 M0 (finds_int Tryz.underlying3 1) (by simp) (by simp [intE]) (by kernel_rfl)
    obtain ⟨w5, hr2, M2, hi2⟩ := insert_run (t := 253) (key := .int .i64 2) (val := (.func (.func 207) #[.pointer (some ⟨g3, 0, none⟩)] #[])) Tryz.underlying253 M1 (finds_int Tryz.underlying3 2) (by simp) (by simp [intE]) (by kernel_rfl)
    obtain ⟨w6, hr3, M3, hi3⟩ := insert_run (t := 253) (key := .int .i64 3) (val := (.func (.func 208) #[.pointer (some ⟨g3, 0, none⟩)] #[])) Tryz.underlying253 M2 (finds_int Tryz.underlying3 3) (by simp) (by simp [intE]) (by kernel_rfl)
    obtain ⟨w7, hr4, M4, hi4⟩ := insert_run (t := 253) (key := .int .i64 4) (val := (.func (.func 209) #[.pointer (some ⟨g3, 0, none⟩)] #[])) Tryz.underlying253 M3 (finds_int Tryz.underlying3 4) (by simp) (by simp [intE]) (by kernel_rfl)
    obtain ⟨w8, hr5, M5, hi5⟩ := insert_run (t := 253) (key := .int .i64 5) (val := (.func (.func 210) #[.pointer (some ⟨g3, 0, none⟩)] #[])) Tryz.underlying253 M4 (finds_int Tryz.underlying3 5) (by simp) (by simp [intE]) (by kernel_rfl)
    obtain ⟨w9, hr6, M6, hi6⟩ := insert_run (t := 253) (key := .int .i64 6) (val := (.func (.func 211) #[.pointer (some ⟨g3, 0, none⟩)] #[])) Tryz.underlying253 M5 (finds_int Tryz.underlying3 6) (by simp) (by simp [intE]) (by kernel_rfl)
    have hgA := gb_step hi1 (gb_step hi2 (gb_step hi3 (gb_step hi4 (gb_step hi5 hi6))))
    go_upto_region 6 with fail
    have K0 := blk_gb (K0.alloc (.map #[] 0)) hgA (by omega)
    have K1 := blk_gb (K1.alloc (.map #[] 0)) hgA (by omega)
    have K2 := blk_gb (K2.alloc (.map #[] 0)) hgA (by omega)
    have K3 := blk_gb (K3.alloc (.map #[] 0)) hgA (by omega)
    have HB := bl_gb (bl_alloc HB (.map #[] 0)) hgA HB.size
    have HM := Lib.hid M6
    clear hr1 hr2 hr3 hr4 hr5 hr6 M0 M1 M2 M3 M4 M5 M6 hi1 hi2 hi3 hi4 hi5 hi6 hgA hmk
    generalize w3.heap.size = gm at *
    obtain ⟨cK0_0, cK0_1, cK0_2, cK0_3, cK0_4, cK0_5, cK0_6, fK0, lK0, nK0, mK0⟩ := Blk.all7 K0
    obtain ⟨cK1_0, cK1_1, cK1_2, fK1, lK1, nK1, mK1⟩ := Blk.all3 K1
    obtain ⟨cK2_0, cK2_1, cK2_2, cK2_3, cK2_4, cK2_5, cK2_6, fK2, lK2, nK2, mK2⟩ := Blk.all7 K2
    obtain ⟨cK3_0, cK3_1, cK3_2, cK3_3, cK3_4, cK3_5, cK3_6, fK3, lK3, nK3, mK3⟩ := Blk.all7 K3
    rcases Bool.eq_false_or_eq_true lost with hl | hl
    rotate_left
    · rcases Bool.eq_false_or_eq_true stall with hst | hst
      rotate_left
      · rcases (by omega : h.ph = 1 ∨ h.ph = 2 ∨ h.ph = 3 ∨ h.ph = 4 ∨ h.ph = 5 ∨ h.ph = 6) with hp | hp | hp | hp | hp | hp
        · have ER := Lib.hid (show takeH h lost stall s = clearedH h s by simp [takeH, hl, hst, hp])
          have hlk : (Instr.lookup 253 (.map (some gm)) (.int .i64 1) false).run Tryz.prog w9 = .ok (.func (.func 206) #[.pointer (some ⟨g3, 0, none⟩)] #[]) w9 := lookup_run (z := .nilFunc) Tryz.underlying253 HM.out (finds_int Tryz.underlying3 1) (by simp) (by kernel_rfl) (by intro em; cases em <;> kernel_rfl) (by intro _; simp [intE]) (by intro q; have q1 := q (.int .i64 1, (.func (.func 206) #[.pointer (some ⟨g3, 0, none⟩)] #[])) (by simp); simp [intE] at q1)
          go_wp2_with (first | (go_at_call 206; with_reducible refine (clear_c g3 h s _ K3 ok hp).mono ?_; rintro e w' ⟨rfl, hk, hg⟩; have HB := bl_gb HB hg (by omega); have K2 := blk_gb K2 hg (by omega); obtain ⟨cK2_0, cK2_1, cK2_2, cK2_3, cK2_4, cK2_5, cK2_6, fK2, lK2, nK2, mK2⟩ := Blk.all7 K2; obtain ⟨cK3_0, cK3_1, cK3_2, cK3_3, cK3_4, cK3_5, cK3_6, fK3, lK3, nK3, mK3⟩ := Blk.all7 hk) | fail)
          exact bodyPost_ret (v := .tuple #[(clearedH h s).v, .int .i64 0]) (by simp [results, Tryz.results157, go_sem, *]) rfl ⟨by rw [ER.out], zq1⟩
        · have ER := Lib.hid (show takeH h lost stall s = (⟨3, h.im, h.bl, false, h.tr, h.rd, h.rp⟩ : HS) by simp [takeH, hl, hst, hp])
          have hlk : (Instr.lookup 253 (.map (some gm)) (.int .i64 2) false).run Tryz.prog w9 = .ok (.func (.func 207) #[.pointer (some ⟨g3, 0, none⟩)] #[]) w9 := lookup_run (z := .nilFunc) Tryz.underlying253 HM.out (finds_int Tryz.underlying3 2) (by simp) (by kernel_rfl) (by intro em; cases em <;> kernel_rfl) (by intro _; simp [intE]) (by intro q; have q1 := q (.int .i64 2, (.func (.func 207) #[.pointer (some ⟨g3, 0, none⟩)] #[])) (by simp); simp [intE] at q1)
          go_wp2_with (first | (go_at_call 207; with_reducible refine (send_c _ _ _ _ _ _ _ _ s _ K3).mono ?_; rintro e w' ⟨rfl, hk, hg⟩; have HB := bl_gb HB hg (by omega); have K2 := blk_gb K2 hg (by omega); obtain ⟨cK2_0, cK2_1, cK2_2, cK2_3, cK2_4, cK2_5, cK2_6, fK2, lK2, nK2, mK2⟩ := Blk.all7 K2; obtain ⟨cK3_0, cK3_1, cK3_2, cK3_3, cK3_4, cK3_5, cK3_6, fK3, lK3, nK3, mK3⟩ := Blk.all7 hk) | fail)
          exact bodyPost_ret (v := .tuple #[((⟨3, h.im, h.bl, false, h.tr, h.rd, h.rp⟩ : HS)).v, .int .i64 0]) (by simp [results, Tryz.results157, go_sem, *]) rfl ⟨by rw [ER.out], zq1⟩
        · have ER := Lib.hid (show takeH h lost stall s = polledH h s by simp [takeH, hl, hst, hp])
          have hlk : (Instr.lookup 253 (.map (some gm)) (.int .i64 3) false).run Tryz.prog w9 = .ok (.func (.func 208) #[.pointer (some ⟨g3, 0, none⟩)] #[]) w9 := lookup_run (z := .nilFunc) Tryz.underlying253 HM.out (finds_int Tryz.underlying3 3) (by simp) (by kernel_rfl) (by intro em; cases em <;> kernel_rfl) (by intro _; simp [intE]) (by intro q; have q1 := q (.int .i64 3, (.func (.func 208) #[.pointer (some ⟨g3, 0, none⟩)] #[])) (by simp); simp [intE] at q1)
          go_wp2_with (first | (go_at_call 208; with_reducible refine (poll_c g3 h s _ K3 ok).mono ?_; rintro e w' ⟨rfl, hk, hg⟩; have HB := bl_gb HB hg (by omega); have K2 := blk_gb K2 hg (by omega); obtain ⟨cK2_0, cK2_1, cK2_2, cK2_3, cK2_4, cK2_5, cK2_6, fK2, lK2, nK2, mK2⟩ := Blk.all7 K2; obtain ⟨cK3_0, cK3_1, cK3_2, cK3_3, cK3_4, cK3_5, cK3_6, fK3, lK3, nK3, mK3⟩ := Blk.all7 hk) | fail)
          exact bodyPost_ret (v := .tuple #[(polledH h s).v, .int .i64 0]) (by simp [results, Tryz.results157, go_sem, *]) rfl ⟨by rw [ER.out], zq1⟩
        · have ER := Lib.hid (show takeH h lost stall s = (⟨5, h.im, h.bl, false, h.tr, h.rd, h.rp⟩ : HS) by simp [takeH, hl, hst, hp])
          have hlk : (Instr.lookup 253 (.map (some gm)) (.int .i64 4) false).run Tryz.prog w9 = .ok (.func (.func 209) #[.pointer (some ⟨g3, 0, none⟩)] #[]) w9 := lookup_run (z := .nilFunc) Tryz.underlying253 HM.out (finds_int Tryz.underlying3 4) (by simp) (by kernel_rfl) (by intro em; cases em <;> kernel_rfl) (by intro _; simp [intE]) (by intro q; have q1 := q (.int .i64 4, (.func (.func 209) #[.pointer (some ⟨g3, 0, none⟩)] #[])) (by simp); simp [intE] at q1)
          go_wp2_with (first | (go_at_call 209; with_reducible refine (end_c _ _ _ _ _ _ _ _ s _ K3).mono ?_; rintro e w' ⟨rfl, hk, hg⟩; have HB := bl_gb HB hg (by omega); have K2 := blk_gb K2 hg (by omega); obtain ⟨cK2_0, cK2_1, cK2_2, cK2_3, cK2_4, cK2_5, cK2_6, fK2, lK2, nK2, mK2⟩ := Blk.all7 K2; obtain ⟨cK3_0, cK3_1, cK3_2, cK3_3, cK3_4, cK3_5, cK3_6, fK3, lK3, nK3, mK3⟩ := Blk.all7 hk) | fail)
          exact bodyPost_ret (v := .tuple #[((⟨5, h.im, h.bl, false, h.tr, h.rd, h.rp⟩ : HS)).v, .int .i64 0]) (by simp [results, Tryz.results157, go_sem, *]) rfl ⟨by rw [ER.out], zq1⟩
        · have ER := Lib.hid (show takeH h lost stall s = waitedH h s by simp [takeH, hl, hst, hp])
          have hlk : (Instr.lookup 253 (.map (some gm)) (.int .i64 5) false).run Tryz.prog w9 = .ok (.func (.func 210) #[.pointer (some ⟨g3, 0, none⟩)] #[]) w9 := lookup_run (z := .nilFunc) Tryz.underlying253 HM.out (finds_int Tryz.underlying3 5) (by simp) (by kernel_rfl) (by intro em; cases em <;> kernel_rfl) (by intro _; simp [intE]) (by intro q; have q1 := q (.int .i64 5, (.func (.func 210) #[.pointer (some ⟨g3, 0, none⟩)] #[])) (by simp); simp [intE] at q1)
          go_wp2_with (first | (go_at_call 210; with_reducible refine (wait_c g3 h s _ K3 ok).mono ?_; rintro e w' ⟨rfl, hk, hg⟩; have HB := bl_gb HB hg (by omega); have K2 := blk_gb K2 hg (by omega); obtain ⟨cK2_0, cK2_1, cK2_2, cK2_3, cK2_4, cK2_5, cK2_6, fK2, lK2, nK2, mK2⟩ := Blk.all7 K2; obtain ⟨cK3_0, cK3_1, cK3_2, cK3_3, cK3_4, cK3_5, cK3_6, fK3, lK3, nK3, mK3⟩ := Blk.all7 hk) | fail)
          exact bodyPost_ret (v := .tuple #[(waitedH h s).v, .int .i64 0]) (by simp [results, Tryz.results157, go_sem, *]) rfl ⟨by rw [ER.out], zq1⟩
        · have ER := Lib.hid (show takeH h lost stall s = readH h s by simp [takeH, hl, hst, hp])
          have hlk : (Instr.lookup 253 (.map (some gm)) (.int .i64 6) false).run Tryz.prog w9 = .ok (.func (.func 211) #[.pointer (some ⟨g3, 0, none⟩)] #[]) w9 := lookup_run (z := .nilFunc) Tryz.underlying253 HM.out (finds_int Tryz.underlying3 6) (by simp) (by kernel_rfl) (by intro em; cases em <;> kernel_rfl) (by intro _; simp [intE]) (by intro q; have q1 := q (.int .i64 6, (.func (.func 211) #[.pointer (some ⟨g3, 0, none⟩)] #[])) (by simp); simp [intE] at q1)
          go_wp2_with (first | (go_at_call 211; with_reducible refine (read_c g3 h s _ K3 ok hs0).mono ?_; rintro e w' ⟨rfl, hk, hg⟩; have HB := bl_gb HB hg (by omega); have K2 := blk_gb K2 hg (by omega); obtain ⟨cK2_0, cK2_1, cK2_2, cK2_3, cK2_4, cK2_5, cK2_6, fK2, lK2, nK2, mK2⟩ := Blk.all7 K2; obtain ⟨cK3_0, cK3_1, cK3_2, cK3_3, cK3_4, cK3_5, cK3_6, fK3, lK3, nK3, mK3⟩ := Blk.all7 hk) | fail)
          exact bodyPost_ret (v := .tuple #[(readH h s).v, .int .i64 0]) (by simp [results, Tryz.results157, go_sem, *]) rfl ⟨by rw [ER.out], zq1⟩
      · have ER := Lib.hid (show takeH h lost stall s = anewH h by simp [takeH, hl, hst])
        go_wp2_with (first | (go_at_call 213; with_reducible refine (anew_c g3 h _ K3 ok.tr0 ok.tr1).mono ?_; rintro e w' ⟨rfl, hk, hg⟩; have HB := bl_gb HB hg (by omega); have K2 := blk_gb K2 hg (by omega); obtain ⟨cK2_0, cK2_1, cK2_2, cK2_3, cK2_4, cK2_5, cK2_6, fK2, lK2, nK2, mK2⟩ := Blk.all7 K2; obtain ⟨cK3_0, cK3_1, cK3_2, cK3_3, cK3_4, cK3_5, cK3_6, fK3, lK3, nK3, mK3⟩ := Blk.all7 hk) | fail)
        exact bodyPost_ret (v := .tuple #[(anewH h).v, .int .i64 0]) (by simp [results, Tryz.results157, go_sem, *]) rfl ⟨by rw [ER.out], zq1⟩
    · have ER := Lib.hid (show takeH h lost stall s = lostH h by simp [takeH, hl])
      go_wp2_with (first | (go_at_call 212; with_reducible refine (lost_c g3 h _ K3 ok).mono ?_; rintro e w' ⟨rfl, hk, hg⟩; have HB := bl_gb HB hg (by omega); have K2 := blk_gb K2 hg (by omega); obtain ⟨cK2_0, cK2_1, cK2_2, cK2_3, cK2_4, cK2_5, cK2_6, fK2, lK2, nK2, mK2⟩ := Blk.all7 K2; obtain ⟨cK3_0, cK3_1, cK3_2, cK3_3, cK3_4, cK3_5, cK3_6, fK3, lK3, nK3, mK3⟩ := Blk.all7 hk) | fail)
      exact bodyPost_ret (v := .tuple #[(lostH h).v, .int .i64 0]) (by simp [results, Tryz.results157, go_sem, *]) rfl ⟨by rw [ER.out], zq1⟩
end Go.Proofs.YtccblleobcidfaaGreat.Rp
