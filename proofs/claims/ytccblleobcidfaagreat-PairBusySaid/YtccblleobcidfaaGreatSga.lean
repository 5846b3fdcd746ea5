/- Layer 9: the next record, of what stands in a slot: what the program's Record answers. -/
import Derived.Test.YtccblleobcidfaaGreatGp
import Derived.Test.YtccblleobcidfaaGreatGa
namespace Go.Proofs.YtccblleobcidfaaGreat.Pl
open Go.RowKit Go.Proofs.YtccblleobcidfaaGreat.Kt Go.Proofs.YtccblleobcidfaaGreat.Lw Go.Proofs.YtccblleobcidfaaGreat.St Go.Proofs.YtccblleobcidfaaGreat.Nm Go.Proofs.YtccblleobcidfaaGreat.By Go.Proofs.YtccblleobcidfaaGreat.En Go.Proofs.YtccblleobcidfaaGreat.Jr Go.Proofs.YtccblleobcidfaaGreat.Im Go.Proofs.YtccblleobcidfaaGreat.Sl Go.Proofs.YtccblleobcidfaaGreat.Ch
set_option linter.unusedVariables false
set_option linter.unusedSimpArgs false
attribute [local irreducible] gotB goodB Cr.crcB nQ nS nZ nM placeB
set_option maxRecDepth 100000 in
set_option maxHeartbeats 6400000 in
theorem srec_c (f : ByteArray) (s z : Int) (w : World) (h : f.size ≤ 9223372036854775807) : Calls Tryz.prog 191 #[.string f, .int .i64 s, .int .i64 z] w fun e w' => e = .returned (.tuple #[.agg (recV f s z), .int .i64 (recE f s z)]) ∧ Below w.heap.size w w' := by
  have HB := Below.refl w.heap.size w
  have K0 := Blk.new w #[.int .i64 0, .int .i64 0, .int .i64 0, .int .i64 0] 67
  have mm := Lib.hid (fun W : World => may_c f W h)
  have ss := Lib.hid (fun W : World => Dv.slot_c s W)
  have zz := Lib.hid (fun W : World => Dv.size_c z W)
  have no : recOk f s z = false → recV f s z = #[.int .i64 0, .int .i64 0, .int .i64 0, .int .i64 0] ∧ recE f s z = 900 := fun hh => by simp [recV, recE, hh]
  by_cases hf : f.size = 768
  · rw [decide_eq_true hf] at mm
    cases hs : rngB s 0 1
    · have hv := Lib.hid (no (by simp [recOk, hs]))
      rw [hs] at ss
      clear hf hs no
      go_enter Tryz.func191, Tryz.ntmps191
      go_wp2_with (first | (go_at_call 76; with_reducible refine (mm.out _).mono ?_; rintro e w' ⟨rfl, rfl⟩) | (go_at_call 174; with_reducible refine (ss.out _).mono ?_; rintro e w' ⟨rfl, rfl⟩) | fail)
      exact bodyPost_ret (v := .tuple #[.agg #[.int .i64 0, .int .i64 0, .int .i64 0, .int .i64 0], .int .i64 900]) (by simp [results, Tryz.results191, go_sem, *]) rfl ⟨by rw [hv.out.1, hv.out.2], zq1⟩
    · rw [hs] at ss
      cases hz : rngB z 1 288
      · have hv := Lib.hid (no (by simp [recOk, hz]))
        rw [hz] at zz
        clear hf hs hz no
        go_enter Tryz.func191, Tryz.ntmps191
        go_wp2_with (first | (go_at_call 76; with_reducible refine (mm.out _).mono ?_; rintro e w' ⟨rfl, rfl⟩) | (go_at_call 174; with_reducible refine (ss.out _).mono ?_; rintro e w' ⟨rfl, rfl⟩) | (go_at_call 80; with_reducible refine (zz.out _).mono ?_; rintro e w' ⟨rfl, rfl⟩) | fail)
        exact bodyPost_ret (v := .tuple #[.agg #[.int .i64 0, .int .i64 0, .int .i64 0, .int .i64 0], .int .i64 900]) (by simp [results, Tryz.results191, go_sem, *]) rfl ⟨by rw [hv.out.1, hv.out.2], zq1⟩
      · rw [hz] at zz
        have hs' : 0 ≤ s ∧ s ≤ 1 := by simpa [rngB] using hs
        have hz' : 1 ≤ z ∧ z ≤ 288 := by simpa [rngB] using hz
        have hok : recOk f s z = true := by simp [recOk, hf, hs, hz]
        have nn := Lib.hid (fun W : World => next_c f W h)
        by_cases hm : maxL (scanL f) = 1048576
        · have hv := Lib.hid (show recV f s z = #[.int .i64 0, .int .i64 0, .int .i64 0, .int .i64 0] ∧ recE f s z = 801 by simp [recV, recE, hok, hm])
          rw [next_full hf hm] at nn
          clear hf hz hs hs' hz' hok hm no
          go_enter Tryz.func191, Tryz.ntmps191
          go_wp2_with (first | (go_at_call 76; with_reducible refine (mm.out _).mono ?_; rintro e w' ⟨rfl, rfl⟩) | (go_at_call 174; with_reducible refine (ss.out _).mono ?_; rintro e w' ⟨rfl, rfl⟩) | (go_at_call 80; with_reducible refine (zz.out _).mono ?_; rintro e w' ⟨rfl, rfl⟩) | (go_at_call 72; with_reducible refine (nn.out _).mono ?_; rintro e w' ⟨rfl, hb⟩; have HB := bl_step (w := w) zq0 hb; have hzB := HB.size; have K0 := Blk.on zq3 zq14 hb; (try clear cK0_0 cK0_1 cK0_2 cK0_3 fK0 lK0 nK0 mK0); obtain ⟨cK0_0, cK0_1, cK0_2, cK0_3, fK0, lK0, nK0, mK0⟩ := Blk.all4 K0) | fail)
          exact bodyPost_ret (v := .tuple #[.agg #[.int .i64 0, .int .i64 0, .int .i64 0, .int .i64 0], .int .i64 801]) (by simp [results, Tryz.results191, go_sem, *]) rfl ⟨by rw [hv.out.1, hv.out.2], zq1⟩
        · have hv := Lib.hid (show recV f s z = #[.int .i64 (maxL (scanL f) + 1), .int .i64 s, .int .i64 z, .int .i64 (Cr.crcB (imgB f s z))] ∧ recE f s z = 0 by simp [recV, recE, hok, hm])
          rw [next_one hf hm] at nn
          have bb := Lib.hid (fun W : World => base_c s W hs'.1 hs'.2)
          obtain ⟨n, rfl⟩ := Int.eq_ofNat_of_zero_le (show 0 ≤ z by omega)
          obtain ⟨b1, b2⟩ := base_le hs'.1 hs'.2
          have cr := Lib.hid (fun W : World => Cr.sum_c (imgB f s (n : Int)) W (by have := img_size f s (n : Int); omega))
          have hi : f.extract (baseN s) (baseN s + n) = imgB f s (n : Int) := rfl
          have hn := hz'.2
          generalize imgB f s (n : Int) = I at *
          generalize baseN s = b at *
          have h1 : b + n ≤ f.size := by omega
          have h2 : (b : Int) + (n : Int) ≤ (f.size : Int) := by omega
          have h3 : b ≤ f.size := by omega
          clear hf hz hs hs' hz' hok hm no
          go_enter Tryz.func191, Tryz.ntmps191
          go_wp2_with (first | (go_at_call 76; with_reducible refine (mm.out _).mono ?_; rintro e w' ⟨rfl, rfl⟩) | (go_at_call 174; with_reducible refine (ss.out _).mono ?_; rintro e w' ⟨rfl, rfl⟩) | (go_at_call 80; with_reducible refine (zz.out _).mono ?_; rintro e w' ⟨rfl, rfl⟩) | (go_at_call 72; with_reducible refine (nn.out _).mono ?_; rintro e w' ⟨rfl, hb⟩; have HB := bl_step (w := w) zq0 hb; have hzB := HB.size; have K0 := Blk.on zq3 zq14 hb; (try clear cK0_0 cK0_1 cK0_2 cK0_3 fK0 lK0 nK0 mK0); obtain ⟨cK0_0, cK0_1, cK0_2, cK0_3, fK0, lK0, nK0, mK0⟩ := Blk.all4 K0) | (go_at_call 160; with_reducible refine (bb.out _).mono ?_; rintro e w' ⟨rfl, rfl⟩) | (go_at_call 82; with_reducible refine (cr.out _).mono ?_; rintro e w' ⟨rfl, hb⟩; have HB := bl_step (w := w) zq0 hb; have hzB := HB.size; have K0 := Blk.on zq3 zq14 hb; (try clear cK0_0 cK0_1 cK0_2 cK0_3 fK0 lK0 nK0 mK0); obtain ⟨cK0_0, cK0_1, cK0_2, cK0_3, fK0, lK0, nK0, mK0⟩ := Blk.all4 K0) | fail)
          exact bodyPost_ret (v := .tuple #[.agg #[.int .i64 (maxL (scanL f) + 1), .int .i64 s, .int .i64 (n : Int), .int .i64 (Cr.crcB I)], .int .i64 0]) (by simp [results, Tryz.results191, go_sem, *]) rfl ⟨by rw [hv.out.1, hv.out.2], zq1⟩
  · have hv := Lib.hid (no (by simp [recOk, hf]))
    rw [decide_eq_false hf] at mm
    clear hf no
    go_enter Tryz.func191, Tryz.ntmps191
    go_wp2_with (first | (go_at_call 76; with_reducible refine (mm.out _).mono ?_; rintro e w' ⟨rfl, rfl⟩) | fail)
    exact bodyPost_ret (v := .tuple #[.agg #[.int .i64 0, .int .i64 0, .int .i64 0, .int .i64 0], .int .i64 900]) (by simp [results, Tryz.results191, go_sem, *]) rfl ⟨by rw [hv.out.1, hv.out.2], zq1⟩
end Go.Proofs.YtccblleobcidfaaGreat.Pl
