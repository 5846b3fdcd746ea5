/- Texts laid as one: Hsu Hsv Rca Rcb. -/
import Derived.Test.YtccblleobcidfaaGreatGu
import Derived.Test.YtccblleobcidfaaGreatGx
/- Layer 22: hosts that start: what the program's and the references' functions answer. -/
section
namespace Go.Proofs.YtccblleobcidfaaGreat.Ho
open Go.RowKit Go.Proofs.YtccblleobcidfaaGreat.Kt Go.Proofs.YtccblleobcidfaaGreat.Lw Go.Proofs.YtccblleobcidfaaGreat.St Go.Proofs.YtccblleobcidfaaGreat.Nm Go.Proofs.YtccblleobcidfaaGreat.Ic Go.Proofs.YtccblleobcidfaaGreat.Sf
set_option linter.unusedVariables false
set_option linter.unusedSimpArgs false
def hstOk (f : ByteArray) (v p r : Int) : Bool := parOk f && matchB (parV f) (parP f) (parR f) v p r
def startV (f : ByteArray) (v p r : Int) : Value :=
  bif mayB v p r then (bif hstOk f v p r then .tuple #[hostV 1 (parB f) 0 false 0 ⟨#[]⟩ 0, .int .i64 0] else .tuple #[hostV 7 ⟨#[]⟩ 0 false 0 ⟨#[]⟩ 3, .int .i64 0]) else .tuple #[hostV 0 ⟨#[]⟩ 0 false 0 ⟨#[]⟩ 0, .int .i64 2200]
set_option maxHeartbeats 3200000 in
theorem start_c (f : ByteArray) (v p r : Int) (w : World) (hs : f.size ≤ 9223372036854775807) : Calls Tryz.prog 66 #[.string f, .agg #[.int .i64 v, .int .i64 p, .int .i64 r]] w fun e w' => e = .returned (startV f v p r) ∧ Below w.heap.size w w' := by
  have HB := Below.refl w.heap.size w
  have K0 := fun cs => Blk.new w cs 25
  have K1 := fun cs0 cs => Blk.new1 w (.cells cs0 25) cs 30
  cases hm : mayB v p r
  · have hv : startV f v p r = .tuple #[hostV 0 ⟨#[]⟩ 0 false 0 ⟨#[]⟩ 0, .int .i64 2200] := by simp [startV, hm]
    go_enter Tryz.func66, Tryz.ntmps66
    go_wp2_with (first | (go_at_call 77; refine (may_c _ _ _ _).mono ?_; rintro e w' ⟨rfl, hb⟩; have HB := bl_step zq4 hb; have K0 := Blk.below zq7 hb; obtain ⟨_, _, _, _, _, _, _⟩ := Blk.all3 K0; have K1 := Blk.below zq16 hb; obtain ⟨_, _, _, _, _, _, _, _, _, _, _⟩ := Blk.all7 K1) | fail)
    exact bodyPost_ret (v := startV f v p r) (by simp [results, Tryz.results66, go_sem, hv, *]) rfl ⟨rfl, zq1⟩
  · cases hp : parOk f
    · have hv : startV f v p r = .tuple #[hostV 7 ⟨#[]⟩ 0 false 0 ⟨#[]⟩ 3, .int .i64 0] := by simp [startV, hm, hstOk, hp]
      rcases par_no hp with q | q
      all_goals
        go_enter Tryz.func66, Tryz.ntmps66
        go_wp2_with (first | (go_at_call 77; refine (may_c _ _ _ _).mono ?_; rintro e w' ⟨rfl, hb⟩; have HB := bl_step zq4 hb; have K0 := Blk.below zq7 hb; obtain ⟨_, _, _, _, _, _, _⟩ := Blk.all3 K0; have K1 := Blk.below zq16 hb; obtain ⟨_, _, _, _, _, _, _, _, _, _, _⟩ := Blk.all7 K1) | (go_at_call 31; refine (parse_c _ _ hs).mono ?_; rintro e w' ⟨rfl, hb⟩; have HB := bl_step zq4 hb; have K0 := Blk.below zq7 hb; obtain ⟨_, _, _, _, _, _, _⟩ := Blk.all3 K0; have K1 := Blk.below zq16 hb; obtain ⟨_, _, _, _, _, _, _, _, _, _, _⟩ := Blk.all7 K1; have K2 := fun cs => Blk.new w' cs 25) | (go_at_call 130; refine (match_c _ _ _ _ _ _ _).mono ?_; rintro e w' ⟨rfl, hb⟩; have HB := bl_step zq4 hb; have K0 := Blk.below zq7 hb; obtain ⟨_, _, _, _, _, _, _⟩ := Blk.all3 K0; have K1 := Blk.below zq16 hb; obtain ⟨_, _, _, _, _, _, _, _, _, _, _⟩ := Blk.all7 K1; have K2 := Blk.below zq33 hb; obtain ⟨_, _, _, _, _, _, _⟩ := Blk.all3 K2) | fail)
        exact bodyPost_ret (v := startV f v p r) (by simp [results, Tryz.results66, go_sem, hv, *]) rfl ⟨rfl, zq1⟩
    · have q := par_yes hp
      cases ha : matchB (parV f) (parP f) (parR f) v p r
      · have hv : startV f v p r = .tuple #[hostV 7 ⟨#[]⟩ 0 false 0 ⟨#[]⟩ 3, .int .i64 0] := by simp [startV, hm, hstOk, hp, ha]
        go_enter Tryz.func66, Tryz.ntmps66
        go_wp2_with (first | (go_at_call 77; refine (may_c _ _ _ _).mono ?_; rintro e w' ⟨rfl, hb⟩; have HB := bl_step zq4 hb; have K0 := Blk.below zq7 hb; obtain ⟨_, _, _, _, _, _, _⟩ := Blk.all3 K0; have K1 := Blk.below zq16 hb; obtain ⟨_, _, _, _, _, _, _, _, _, _, _⟩ := Blk.all7 K1) | (go_at_call 31; refine (parse_c _ _ hs).mono ?_; rintro e w' ⟨rfl, hb⟩; have HB := bl_step zq4 hb; have K0 := Blk.below zq7 hb; obtain ⟨_, _, _, _, _, _, _⟩ := Blk.all3 K0; have K1 := Blk.below zq16 hb; obtain ⟨_, _, _, _, _, _, _, _, _, _, _⟩ := Blk.all7 K1; have K2 := fun cs => Blk.new w' cs 25) | (go_at_call 130; refine (match_c _ _ _ _ _ _ _).mono ?_; rintro e w' ⟨rfl, hb⟩; have HB := bl_step zq4 hb; have K0 := Blk.below zq7 hb; obtain ⟨_, _, _, _, _, _, _⟩ := Blk.all3 K0; have K1 := Blk.below zq16 hb; obtain ⟨_, _, _, _, _, _, _, _, _, _, _⟩ := Blk.all7 K1; have K2 := Blk.below zq33 hb; obtain ⟨_, _, _, _, _, _, _⟩ := Blk.all3 K2) | fail)
        exact bodyPost_ret (v := startV f v p r) (by simp [results, Tryz.results66, go_sem, hv, *]) rfl ⟨rfl, zq1⟩
      · have hv : startV f v p r = .tuple #[hostV 1 (parB f) 0 false 0 ⟨#[]⟩ 0, .int .i64 0] := by simp [startV, hm, hstOk, hp, ha]
        go_enter Tryz.func66, Tryz.ntmps66
        go_wp2_with (first | (go_at_call 77; refine (may_c _ _ _ _).mono ?_; rintro e w' ⟨rfl, hb⟩; have HB := bl_step zq4 hb; have K0 := Blk.below zq7 hb; obtain ⟨_, _, _, _, _, _, _⟩ := Blk.all3 K0; have K1 := Blk.below zq16 hb; obtain ⟨_, _, _, _, _, _, _, _, _, _, _⟩ := Blk.all7 K1) | (go_at_call 31; refine (parse_c _ _ hs).mono ?_; rintro e w' ⟨rfl, hb⟩; have HB := bl_step zq4 hb; have K0 := Blk.below zq7 hb; obtain ⟨_, _, _, _, _, _, _⟩ := Blk.all3 K0; have K1 := Blk.below zq16 hb; obtain ⟨_, _, _, _, _, _, _, _, _, _, _⟩ := Blk.all7 K1; have K2 := fun cs => Blk.new w' cs 25) | (go_at_call 130; refine (match_c _ _ _ _ _ _ _).mono ?_; rintro e w' ⟨rfl, hb⟩; have HB := bl_step zq4 hb; have K0 := Blk.below zq7 hb; obtain ⟨_, _, _, _, _, _, _⟩ := Blk.all3 K0; have K1 := Blk.below zq16 hb; obtain ⟨_, _, _, _, _, _, _, _, _, _, _⟩ := Blk.all7 K1; have K2 := Blk.below zq33 hb; obtain ⟨_, _, _, _, _, _, _⟩ := Blk.all3 K2) | fail)
        exact bodyPost_ret (v := startV f v p r) (by simp [results, Tryz.results66, go_sem, hv, *]) rfl ⟨rfl, zq1⟩
end Go.Proofs.YtccblleobcidfaaGreat.Ho
end
/- Layer 22: hosts that start: what the references' function answers. -/
section
namespace Go.Proofs.YtccblleobcidfaaGreat.Ho
open Go.RowKit Go.Proofs.YtccblleobcidfaaGreat.Kt Go.Proofs.YtccblleobcidfaaGreat.Lw Go.Proofs.YtccblleobcidfaaGreat.St Go.Proofs.YtccblleobcidfaaGreat.Nm Go.Proofs.YtccblleobcidfaaGreat.Ic Go.Proofs.YtccblleobcidfaaGreat.Sf
set_option linter.unusedVariables false
set_option linter.unusedSimpArgs false
set_option maxHeartbeats 3200000 in
theorem rstart_c (f : ByteArray) (v p r : Int) (w : World) (hs : f.size ≤ 9223372036854775807) : Calls Tryz.prog 97 #[.string f, .agg #[.int .i64 v, .int .i64 p, .int .i64 r]] w fun e w' => e = .returned (startV f v p r) ∧ Below w.heap.size w w' := by
  have HB := Below.refl w.heap.size w
  have K0 := fun cs => Blk.new w cs 25
  have K1 := fun cs0 cs => Blk.new1 w (.cells cs0 25) cs 30
  cases hm : mayB v p r
  · have hv : startV f v p r = .tuple #[hostV 0 ⟨#[]⟩ 0 false 0 ⟨#[]⟩ 0, .int .i64 2200] := by simp [startV, hm]
    go_enter Tryz.func97, Tryz.ntmps97
    go_wp2_with (first | (go_at_call 103; refine (idsMay_c _ _ _ _).mono ?_; rintro e w' ⟨rfl, hb⟩; have HB := bl_step zq4 hb; have K0 := Blk.below zq7 hb; obtain ⟨_, _, _, _, _, _, _⟩ := Blk.all3 K0; have K1 := Blk.below zq16 hb; obtain ⟨_, _, _, _, _, _, _, _, _, _, _⟩ := Blk.all7 K1) | fail)
    exact bodyPost_ret (v := startV f v p r) (by simp [results, Tryz.results97, go_sem, hv, *]) rfl ⟨rfl, zq1⟩
  · cases hp : parOk f
    · have hv : startV f v p r = .tuple #[hostV 7 ⟨#[]⟩ 0 false 0 ⟨#[]⟩ 3, .int .i64 0] := by simp [startV, hm, hstOk, hp]
      rcases par_no hp with q | q
      all_goals
        go_enter Tryz.func97, Tryz.ntmps97
        go_wp2_with (first | (go_at_call 103; refine (idsMay_c _ _ _ _).mono ?_; rintro e w' ⟨rfl, hb⟩; have HB := bl_step zq4 hb; have K0 := Blk.below zq7 hb; obtain ⟨_, _, _, _, _, _, _⟩ := Blk.all3 K0; have K1 := Blk.below zq16 hb; obtain ⟨_, _, _, _, _, _, _, _, _, _, _⟩ := Blk.all7 K1) | (go_at_call 161; refine (rparse_c _ _ hs).mono ?_; rintro e w' ⟨rfl, hb⟩; have HB := bl_step zq4 hb; have K0 := Blk.below zq7 hb; obtain ⟨_, _, _, _, _, _, _⟩ := Blk.all3 K0; have K1 := Blk.below zq16 hb; obtain ⟨_, _, _, _, _, _, _, _, _, _, _⟩ := Blk.all7 K1; have K2 := fun cs => Blk.new w' cs 25) | (go_at_call 162; refine (rmatch_c _ _ _ _ _ _ _).mono ?_; rintro e w' ⟨rfl, hb⟩; have HB := bl_step zq4 hb; have K0 := Blk.below zq7 hb; obtain ⟨_, _, _, _, _, _, _⟩ := Blk.all3 K0; have K1 := Blk.below zq16 hb; obtain ⟨_, _, _, _, _, _, _, _, _, _, _⟩ := Blk.all7 K1; have K2 := Blk.below zq33 hb; obtain ⟨_, _, _, _, _, _, _⟩ := Blk.all3 K2) | fail)
        exact bodyPost_ret (v := startV f v p r) (by simp [results, Tryz.results97, go_sem, hv, *]) rfl ⟨rfl, zq1⟩
    · have q := par_yes hp
      cases ha : matchB (parV f) (parP f) (parR f) v p r
      · have hv : startV f v p r = .tuple #[hostV 7 ⟨#[]⟩ 0 false 0 ⟨#[]⟩ 3, .int .i64 0] := by simp [startV, hm, hstOk, hp, ha]
        go_enter Tryz.func97, Tryz.ntmps97
        go_wp2_with (first | (go_at_call 103; refine (idsMay_c _ _ _ _).mono ?_; rintro e w' ⟨rfl, hb⟩; have HB := bl_step zq4 hb; have K0 := Blk.below zq7 hb; obtain ⟨_, _, _, _, _, _, _⟩ := Blk.all3 K0; have K1 := Blk.below zq16 hb; obtain ⟨_, _, _, _, _, _, _, _, _, _, _⟩ := Blk.all7 K1) | (go_at_call 161; refine (rparse_c _ _ hs).mono ?_; rintro e w' ⟨rfl, hb⟩; have HB := bl_step zq4 hb; have K0 := Blk.below zq7 hb; obtain ⟨_, _, _, _, _, _, _⟩ := Blk.all3 K0; have K1 := Blk.below zq16 hb; obtain ⟨_, _, _, _, _, _, _, _, _, _, _⟩ := Blk.all7 K1; have K2 := fun cs => Blk.new w' cs 25) | (go_at_call 162; refine (rmatch_c _ _ _ _ _ _ _).mono ?_; rintro e w' ⟨rfl, hb⟩; have HB := bl_step zq4 hb; have K0 := Blk.below zq7 hb; obtain ⟨_, _, _, _, _, _, _⟩ := Blk.all3 K0; have K1 := Blk.below zq16 hb; obtain ⟨_, _, _, _, _, _, _, _, _, _, _⟩ := Blk.all7 K1; have K2 := Blk.below zq33 hb; obtain ⟨_, _, _, _, _, _, _⟩ := Blk.all3 K2) | fail)
        exact bodyPost_ret (v := startV f v p r) (by simp [results, Tryz.results97, go_sem, hv, *]) rfl ⟨rfl, zq1⟩
      · have hv : startV f v p r = .tuple #[hostV 1 (parB f) 0 false 0 ⟨#[]⟩ 0, .int .i64 0] := by simp [startV, hm, hstOk, hp, ha]
        go_enter Tryz.func97, Tryz.ntmps97
        go_wp2_with (first | (go_at_call 103; refine (idsMay_c _ _ _ _).mono ?_; rintro e w' ⟨rfl, hb⟩; have HB := bl_step zq4 hb; have K0 := Blk.below zq7 hb; obtain ⟨_, _, _, _, _, _, _⟩ := Blk.all3 K0; have K1 := Blk.below zq16 hb; obtain ⟨_, _, _, _, _, _, _, _, _, _, _⟩ := Blk.all7 K1) | (go_at_call 161; refine (rparse_c _ _ hs).mono ?_; rintro e w' ⟨rfl, hb⟩; have HB := bl_step zq4 hb; have K0 := Blk.below zq7 hb; obtain ⟨_, _, _, _, _, _, _⟩ := Blk.all3 K0; have K1 := Blk.below zq16 hb; obtain ⟨_, _, _, _, _, _, _, _, _, _, _⟩ := Blk.all7 K1; have K2 := fun cs => Blk.new w' cs 25) | (go_at_call 162; refine (rmatch_c _ _ _ _ _ _ _).mono ?_; rintro e w' ⟨rfl, hb⟩; have HB := bl_step zq4 hb; have K0 := Blk.below zq7 hb; obtain ⟨_, _, _, _, _, _, _⟩ := Blk.all3 K0; have K1 := Blk.below zq16 hb; obtain ⟨_, _, _, _, _, _, _, _, _, _, _⟩ := Blk.all7 K1; have K2 := Blk.below zq33 hb; obtain ⟨_, _, _, _, _, _, _⟩ := Blk.all3 K2) | fail)
        exact bodyPost_ret (v := startV f v p r) (by simp [results, Tryz.results97, go_sem, hv, *]) rfl ⟨rfl, zq1⟩
end Go.Proofs.YtccblleobcidfaaGreat.Ho
end
/- Layer 23: the law's host that carries so many bytes. -/
section
namespace Go.Proofs.YtccblleobcidfaaGreat.Ho
open Go.RowKit Go.Proofs.YtccblleobcidfaaGreat.Kt Go.Proofs.YtccblleobcidfaaGreat.Lw Go.Proofs.YtccblleobcidfaaGreat.St Go.Proofs.YtccblleobcidfaaGreat.Nm Go.Proofs.YtccblleobcidfaaGreat.Ic Go.Proofs.YtccblleobcidfaaGreat.Sf
set_option linter.unusedVariables false
set_option linter.unusedSimpArgs false
/-- the bytes 0, 1, 2 .. -/
def cntL (n : Nat) : List Int := (List.range n).map fun (i : Nat) => ((i : Int) % 256)
def cntB (n : Nat) : ByteArray := strOfNums (cntL n)
theorem cnt_size (n : Nat) : (cntB n).size = n := by simp [cntB, cntL, strOfNums, ByteArray.size]
theorem cnt_succ (n : Nat) : cntB (n + 1) = cntB n ++ strOfNums [(n : Int) % 256] := by
  apply ext_data
  simp [cntB, cntL, strOfNums, List.range_succ]
-- left out: ids_c
theorem carried {n : Nat} (h0 : 1 ≤ n) (h1 : n ≤ 288) : bldE (cntB n) 1155 57105 512 = 0 ∧ startV (bldB (cntB n) 1155 57105 512) 1155 57105 512 = .tuple #[hostV 1 (cntB n) 0 false 0 ⟨#[]⟩ 0, .int .i64 0] ∧ (bldB (cntB n) 1155 57105 512).size ≤ 9223372036854775807 := by
  have hr : rngB (n : Int) 1 288 = true := by simp [rngB]; omega
  have hk : bldOk (cntB n) 1155 57105 512 = true := by
    simp only [bldOk, cnt_size, hr]
    decide
  have hp := bld_par hk
  have hz := bld_size hk
  rw [cnt_size] at hz
  generalize bldB (cntB n) 1155 57105 512 = F at *
  have hp' := hp
  simp only [parV3] at hp'
  injection hp' with hp'
  simp at hp'
  obtain ⟨g1, ⟨g2, g3, g4⟩, g5⟩ := hp'
  have ho : parOk F = true := par_e.1 g5
  refine ⟨bld_zero hk, ?_, by omega⟩
  have hm : mayB 1155 57105 512 = true := by decide
  have hh : hstOk F 1155 57105 512 = true := by
    simp only [hstOk, ho, g2, g3, g4]
    decide
  simp [startV, hm, hh, g1]
-- left out: carry_c
end Go.Proofs.YtccblleobcidfaaGreat.Ho
end
/- Layers 24, 25, the whole: the laws' host that carries so many bytes, and its ids. -/
section
namespace Go.Proofs.YtccblleobcidfaaGreat.Ho
open Go.RowKit Go.Proofs.YtccblleobcidfaaGreat.Kt Go.Proofs.YtccblleobcidfaaGreat.Lw Go.Proofs.YtccblleobcidfaaGreat.St Go.Proofs.YtccblleobcidfaaGreat.Nm Go.Proofs.YtccblleobcidfaaGreat.Ic Go.Proofs.YtccblleobcidfaaGreat.Sf
set_option linter.unusedVariables false
set_option linter.unusedSimpArgs false
theorem ids24_c (w : World) : Calls Tryz.prog 44 #[] w fun e w' => e = .returned (.agg #[.int .i64 1155, .int .i64 57105, .int .i64 512]) ∧ Below w.heap.size w w' := by
  go_enter Tryz.func44, Tryz.ntmps44
  go_wp2
  exact bodyPost_ret (v := .agg #[.int .i64 1155, .int .i64 57105, .int .i64 512]) (by simp [results, Tryz.results44, go_sem]) rfl ⟨rfl, zq1⟩
set_option maxHeartbeats 3200000 in
theorem carry24_c (n : Nat) (w : World) (h0 : 1 ≤ n) (hn : n ≤ 288) : Calls Tryz.prog 45 #[.int .i64 n] w fun e w' => e = .returned (hostV 1 (cntB n) 0 false 0 ⟨#[]⟩ 0) ∧ Below w.heap.size w w' := by
  have HB := bl_alloc (Below.refl w.heap.size w) (.cells #[.int .i64 0, .string ⟨#[]⟩, .int .i64 0, .bool false, .int .i64 0, .string ⟨#[]⟩, .int .i64 0] 30)
  have K0 := Blk.new w #[.int .i64 0, .string ⟨#[]⟩, .int .i64 0, .bool false, .int .i64 0, .string ⟨#[]⟩, .int .i64 0] 30
  obtain ⟨f1, f2, f3⟩ := carried h0 hn
  have hcv := fun (W : World) (x : Int) => own_str (P := Tryz.prog) (xs := [x]) Tryz.underlying59 Tryz.underlying5 Tryz.underlying9 (World.ownsRow_lit (base := W.heap.size) (e := 5) (size := 1) W #[.int .u8 x] 1 (Nat.le_refl _) (by decide) rfl)
  go_enter Tryz.func45, Tryz.ntmps45
  go_wp2
  generalize w.alloc (.cells #[.int .i64 0, .string ⟨#[]⟩, .int .i64 0, .bool false, .int .i64 0, .string ⟨#[]⟩, .int .i64 0] 30) = w1 at *
  go_loopg [3, 4] n (fun gg s3 s4 wr => ∃ k : Nat, k ≤ n ∧ n - k ≤ gg ∧ s4 = .int .i64 k ∧ s3 = .string (cntB k) ∧ Aside (Below w.heap.size w wr) ∧ Aside (Blk wr w.heap.size #[.int .i64 0, .string ⟨#[]⟩, .int .i64 0, .bool false, .int .i64 0, .string ⟨#[]⟩, .int .i64 0] 30))
  case atStart => exact ⟨0, by omega, by omega, rfl, rfl, HB, K0⟩
  case round =>
    clear HB K0 w1
    obtain ⟨k, hk, hg, rfl, rfl, BW, BK⟩ := hrel
    by_cases hlt : k < n
    · have hz := cnt_size k
      have hs := Lib.hid (cnt_succ k)
      have hu : IntKind.u8.wrap (k : Int) = (k : Int) % 256 := by simp only [IntKind.wrap_u8]
      have h1 : (strOfNums [(k : Int) % 256]).size = 1 := rfl
      have q : (9223372036854775807 < k + 1) = False := by simp; omega
      go_wp2
      go_roundg (n - (k + 1))
      case measure => omega
      case rel => exact ⟨k + 1, by omega, by omega, by go_num, by rw [hs.out], bl_alloc BW.out _, Blk.alloc BK.out _⟩
    · obtain rfl : k = n := by omega
      have hz := cnt_size k
      have HB := BW.out
      have K0 := BK.out
      have s1 : (cntB k).size ≤ 9223372036854775807 := by omega
      clear hcv
      go_wp2_with (first | (go_at_call 44; refine (ids24_c _).mono ?_; rintro e w' ⟨rfl, hb⟩; have HB := bl_step zq4 hb; have K0 := Blk.below zq7 hb; obtain ⟨_, _, _, _, _, _, _, _, _, _, _⟩ := Blk.all7 K0) | (go_at_call 47; refine (rbuild_c _ _ _ _ _ s1).mono ?_; rintro e w' ⟨rfl, hb⟩; have HB := bl_step zq4 hb; have K0 := Blk.below zq7 hb; obtain ⟨_, _, _, _, _, _, _, _, _, _, _⟩ := Blk.all7 K0) | (go_at_call 97; refine (rstart_c _ _ _ _ _ f3).mono ?_; rintro e w' ⟨rfl, hb⟩; have HB := bl_step zq4 hb; have K0 := Blk.below zq7 hb; obtain ⟨_, _, _, _, _, _, _, _, _, _, _⟩ := Blk.all7 K0) | fail)
      exact bodyPost_ret (v := hostV 1 (cntB k) 0 false 0 ⟨#[]⟩ 0) (by simp [results, Tryz.results45, go_sem, *]) rfl ⟨rfl, zq1⟩
theorem ids25_c (w : World) : Calls Tryz.prog 57 #[] w fun e w' => e = .returned (.agg #[.int .i64 1155, .int .i64 57105, .int .i64 512]) ∧ Below w.heap.size w w' := by
  go_enter Tryz.func57, Tryz.ntmps57
  go_wp2
  exact bodyPost_ret (v := .agg #[.int .i64 1155, .int .i64 57105, .int .i64 512]) (by simp [results, Tryz.results57, go_sem]) rfl ⟨rfl, zq1⟩
set_option maxHeartbeats 3200000 in
theorem carry25_c (n : Nat) (w : World) (h0 : 1 ≤ n) (hn : n ≤ 288) : Calls Tryz.prog 58 #[.int .i64 n] w fun e w' => e = .returned (hostV 1 (cntB n) 0 false 0 ⟨#[]⟩ 0) ∧ Below w.heap.size w w' := by
  have HB := bl_alloc (Below.refl w.heap.size w) (.cells #[.int .i64 0, .string ⟨#[]⟩, .int .i64 0, .bool false, .int .i64 0, .string ⟨#[]⟩, .int .i64 0] 30)
  have K0 := Blk.new w #[.int .i64 0, .string ⟨#[]⟩, .int .i64 0, .bool false, .int .i64 0, .string ⟨#[]⟩, .int .i64 0] 30
  obtain ⟨f1, f2, f3⟩ := carried h0 hn
  have hcv := fun (W : World) (x : Int) => own_str (P := Tryz.prog) (xs := [x]) Tryz.underlying59 Tryz.underlying5 Tryz.underlying9 (World.ownsRow_lit (base := W.heap.size) (e := 5) (size := 1) W #[.int .u8 x] 1 (Nat.le_refl _) (by decide) rfl)
  go_enter Tryz.func58, Tryz.ntmps58
  go_wp2
  generalize w.alloc (.cells #[.int .i64 0, .string ⟨#[]⟩, .int .i64 0, .bool false, .int .i64 0, .string ⟨#[]⟩, .int .i64 0] 30) = w1 at *
  go_loopg [3, 4] n (fun gg s3 s4 wr => ∃ k : Nat, k ≤ n ∧ n - k ≤ gg ∧ s4 = .int .i64 k ∧ s3 = .string (cntB k) ∧ Aside (Below w.heap.size w wr) ∧ Aside (Blk wr w.heap.size #[.int .i64 0, .string ⟨#[]⟩, .int .i64 0, .bool false, .int .i64 0, .string ⟨#[]⟩, .int .i64 0] 30))
  case atStart => exact ⟨0, by omega, by omega, rfl, rfl, HB, K0⟩
  case round =>
    clear HB K0 w1
    obtain ⟨k, hk, hg, rfl, rfl, BW, BK⟩ := hrel
    by_cases hlt : k < n
    · have hz := cnt_size k
      have hs := Lib.hid (cnt_succ k)
      have hu : IntKind.u8.wrap (k : Int) = (k : Int) % 256 := by simp only [IntKind.wrap_u8]
      have h1 : (strOfNums [(k : Int) % 256]).size = 1 := rfl
      have q : (9223372036854775807 < k + 1) = False := by simp; omega
      go_wp2
      go_roundg (n - (k + 1))
      case measure => omega
      case rel => exact ⟨k + 1, by omega, by omega, by go_num, by rw [hs.out], bl_alloc BW.out _, Blk.alloc BK.out _⟩
    · obtain rfl : k = n := by omega
      have hz := cnt_size k
      have HB := BW.out
      have K0 := BK.out
      have s1 : (cntB k).size ≤ 9223372036854775807 := by omega
      clear hcv
      go_wp2_with (first | (go_at_call 57; refine (ids25_c _).mono ?_; rintro e w' ⟨rfl, hb⟩; have HB := bl_step zq4 hb; have K0 := Blk.below zq7 hb; obtain ⟨_, _, _, _, _, _, _, _, _, _, _⟩ := Blk.all7 K0) | (go_at_call 47; refine (rbuild_c _ _ _ _ _ s1).mono ?_; rintro e w' ⟨rfl, hb⟩; have HB := bl_step zq4 hb; have K0 := Blk.below zq7 hb; obtain ⟨_, _, _, _, _, _, _, _, _, _, _⟩ := Blk.all7 K0) | (go_at_call 97; refine (rstart_c _ _ _ _ _ f3).mono ?_; rintro e w' ⟨rfl, hb⟩; have HB := bl_step zq4 hb; have K0 := Blk.below zq7 hb; obtain ⟨_, _, _, _, _, _, _, _, _, _, _⟩ := Blk.all7 K0) | fail)
      exact bodyPost_ret (v := hostV 1 (cntB k) 0 false 0 ⟨#[]⟩ 0) (by simp [results, Tryz.results58, go_sem, *]) rfl ⟨rfl, zq1⟩
theorem idst_c (w : World) : Calls Tryz.prog 29 #[] w fun e w' => e = .returned (.agg #[.int .i64 1155, .int .i64 57105, .int .i64 512]) ∧ Below w.heap.size w w' := by
  go_enter Tryz.func29, Tryz.ntmps29
  go_wp2
  exact bodyPost_ret (v := .agg #[.int .i64 1155, .int .i64 57105, .int .i64 512]) (by simp [results, Tryz.results29, go_sem]) rfl ⟨rfl, zq1⟩
end Go.Proofs.YtccblleobcidfaaGreat.Ho
end
