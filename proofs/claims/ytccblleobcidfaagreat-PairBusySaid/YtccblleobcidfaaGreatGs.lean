/- Texts laid as one: Sup Suh Sug Sur Suq. -/
import Derived.Test.YtccblleobcidfaaGreatGb
/- Layer 13: requests: what the program's and the references' functions answer. -/
section
namespace Go.Proofs.YtccblleobcidfaaGreat.Su
open Go.RowKit Go.Proofs.YtccblleobcidfaaGreat.Kt Go.Proofs.YtccblleobcidfaaGreat.Lw Go.Proofs.YtccblleobcidfaaGreat.St Go.Proofs.YtccblleobcidfaaGreat.Nm
set_option linter.unusedVariables false
set_option linter.unusedSimpArgs false

set_option maxHeartbeats 400000 in
theorem code_c (x : Int) (w : World) : Calls Tryz.prog 185 #[.int .i64 x] w fun e w' => e = .returned (.bool (rngB x 0 6)) ∧ w = w' := by
  go_enter Tryz.func185, Tryz.ntmps185
  go_wp2
  all_goals (go_ret; exact ⟨by simp [rngB]; omega, rfl⟩)
set_option maxHeartbeats 400000 in
theorem value_c (x : Int) (w : World) : Calls Tryz.prog 141 #[.int .i64 x] w fun e w' => e = .returned (.bool (rngB x 0 65535)) ∧ w = w' := by
  go_enter Tryz.func141, Tryz.ntmps141
  go_wp2
  all_goals (go_ret; exact ⟨by simp [rngB]; omega, rfl⟩)
set_option maxHeartbeats 400000 in
theorem length_c (x : Int) (w : World) : Calls Tryz.prog 142 #[.int .i64 x] w fun e w' => e = .returned (.bool (rngB x 0 32)) ∧ w = w' := by
  go_enter Tryz.func142, Tryz.ntmps142
  go_wp2
  all_goals (go_ret; exact ⟨by simp [rngB]; omega, rfl⟩)
def setMay (c v l : Int) : Bool := rngB c 0 6 && (rngB v 0 65535 && rngB l 0 32)
set_option maxHeartbeats 400000 in
theorem setMay_c (c v l : Int) (w : World) : Calls Tryz.prog 241 #[.agg #[.int .i64 c, .int .i64 v, .int .i64 l]] w fun e w' => e = .returned (.bool (setMay c v l)) ∧ Below w.heap.size w w' := by
  go_enter Tryz.func241, Tryz.ntmps241
  go_wp2_with (first | (go_at_call 185; refine (code_c _ _).mono ?_; rintro e w' ⟨rfl, rfl⟩) | (go_at_call 141; refine (value_c _ _).mono ?_; rintro e w' ⟨rfl, rfl⟩) | (go_at_call 142; refine (length_c _ _).mono ?_; rintro e w' ⟨rfl, rfl⟩) | fail)
  all_goals (go_ret; exact ⟨by simp [setMay, *], zq1⟩)
set_option maxHeartbeats 400000 in
theorem rsetMay_c (c v l : Int) (w : World) : Calls Tryz.prog 131 #[.agg #[.int .i64 c, .int .i64 v, .int .i64 l]] w fun e w' => e = .returned (.bool (setMay c v l)) ∧ Below w.heap.size w w' := by
  go_enter Tryz.func131, Tryz.ntmps131
  go_wp2_with (first | (go_at_call 109; refine (upTo_c _ _ _ _).mono ?_; rintro e w' ⟨rfl, rfl⟩) | fail)
  all_goals (go_ret; exact ⟨by simp [setMay, *], zq1⟩)
def wayI (c : Int) : Int := if c = 2 ∨ c = 3 ∨ c = 5 then 161 else 33
set_option maxHeartbeats 400000 in
theorem kind_c (c : Int) (w : World) : Calls Tryz.prog 242 #[.int .i64 c] w fun e w' => e = .returned (.int .i64 (wayI c)) ∧ w = w' := by
  go_enter Tryz.func242, Tryz.ntmps242
  go_wp2
  all_goals (go_ret; exact ⟨by simp_all [wayI], rfl⟩)
def supB (c v l : Int) : ByteArray := bif setMay c v l then lowB (wayI c) 1 ++ lowB c 1 ++ lowB v 2 ++ lowB 0 2 ++ lowB l 2 else ByteArray.empty
def supE (c v l : Int) : Int := bif setMay c v l then 0 else 1300
set_option maxHeartbeats 1600000 in
theorem sput_c (c v l : Int) (w : World) : Calls Tryz.prog 184 #[.agg #[.int .i64 c, .int .i64 v, .int .i64 l]] w fun e w' => e = .returned (.tuple #[.string (supB c v l), .int .i64 (supE c v l)]) ∧ Below w.heap.size w w' := by
  have HB := Below.refl w.heap.size w
  have K0 := Blk.new w #[.int .i64 c, .int .i64 v, .int .i64 l] 105
  cases hm : setMay c v l
  · go_enter Tryz.func184, Tryz.ntmps184
    go_wp2_with (first | (go_at_call 241; refine (setMay_c _ _ _ _).mono ?_; rintro e w' ⟨rfl, hb⟩; have HB := bl_step zq4 hb; have K0 := Blk.below zq7 hb; obtain ⟨_, _, _, _, _, _, _⟩ := Blk.all3 K0) | fail)
    go_ret2
    exact ⟨by simp [supB, supE, hm]; rfl, HB⟩
  · go_enter Tryz.func184, Tryz.ntmps184
    go_wp2_with (first | (go_at_call 241; refine (setMay_c _ _ _ _).mono ?_; rintro e w' ⟨rfl, hb⟩; have HB := bl_step zq4 hb; have K0 := Blk.below zq7 hb; obtain ⟨_, _, _, _, _, _, _⟩ := Blk.all3 K0) | fail)
    have HC : w'.cell? ⟨w.heap.size, 0, none⟩ = some (.int .i64 c) ∧ w'.cell? ⟨w.heap.size, 1, none⟩ = some (.int .i64 v) ∧ w'.cell? ⟨w.heap.size, 2, none⟩ = some (.int .i64 l) := ⟨K0.cell 0, K0.cell 1, K0.cell 2⟩
    have z1 := lowB_size (wayI c) 1
    have z2 := lowB_size c 1
    have z3 := lowB_size v 2
    have z4 := lowB_size 0 2
    have z5 := lowB_size l 2
    go_region_held3 (fun W => W.cell? ⟨w.heap.size, 0, none⟩ = some (.int .i64 c) ∧ W.cell? ⟨w.heap.size, 1, none⟩ = some (.int .i64 v) ∧ W.cell? ⟨w.heap.size, 2, none⟩ = some (.int .i64 l) ∧ Below w'.heap.size w' W) (first | (refine k3 HC ?_; (repeat (with_reducible first | exact Below.refl _ _ | (apply kz3; assumption) | apply bl_alloc | apply bl_drew | apply bl_drewN | (refine bl_setn ?_ (by apply kz3; assumption)) | (refine bl_step ?_ (by assumption)) | fail)); done) | fail) (first | (go_at_call 129; refine (low_c _ _ _ (by omega) (by omega)).mono ?_; rintro e wq ⟨rfl, hb⟩) | (go_at_call 242; refine (kind_c _ _).mono ?_; rintro e w' ⟨rfl, rfl⟩) | fail)
    go_wp2
    go_ret2
    exact ⟨by simp [supB, supE, hm], bl_step HB (kz3 (by assumption))⟩
end Go.Proofs.YtccblleobcidfaaGreat.Su
end
/- Layer 13: what bytes tell of a request: definitions. -/
section
namespace Go.Proofs.YtccblleobcidfaaGreat.Su
open Go.RowKit Go.Proofs.YtccblleobcidfaaGreat.Kt Go.Proofs.YtccblleobcidfaaGreat.Lw Go.Proofs.YtccblleobcidfaaGreat.St Go.Proofs.YtccblleobcidfaaGreat.Nm
def gotS (s : ByteArray) : Bool := decide (s.size = 8) && (setMay (byt s 1) (numB (s.extract 2 4)) (numB (s.extract 6 8)) && decide (supB (byt s 1) (numB (s.extract 2 4)) (numB (s.extract 6 8)) = s))
def gotW (s : ByteArray) : Array Value := bif gotS s then #[.int .i64 (byt s 1), .int .i64 (numB (s.extract 2 4)), .int .i64 (numB (s.extract 6 8))] else #[.int .i64 0, .int .i64 0, .int .i64 0]
end Go.Proofs.YtccblleobcidfaaGreat.Su
end
/- Layer 13: requests out of bytes; the references' Put. -/
section
namespace Go.Proofs.YtccblleobcidfaaGreat.Su
open Go.RowKit Go.Proofs.YtccblleobcidfaaGreat.Kt Go.Proofs.YtccblleobcidfaaGreat.Lw Go.Proofs.YtccblleobcidfaaGreat.St Go.Proofs.YtccblleobcidfaaGreat.Nm
set_option linter.unusedVariables false
set_option linter.unusedSimpArgs false

set_option maxHeartbeats 1600000 in
theorem sget_c (s : ByteArray) (w : World) : Calls Tryz.prog 132 #[.string s] w fun e w' => e = .returned (.tuple #[.agg (gotW s), .int .i64 (bif gotS s then 0 else 1300)]) ∧ Below w.heap.size w w' := by
  by_cases hs : s.size = 8
  · have e1 : (s.extract 2 4).size ≤ 4 := by simp; omega
    have e2 : (s.extract 6 8).size ≤ 4 := by simp; omega
    have e0 := byt_at s 1 (by omega)
    have e3 := byt_wrap s 1
    go_enter Tryz.func132, Tryz.ntmps132
    go_wp2
    have K0 := Blk.new w #[.int .i64 0, .int .i64 0, .int .i64 0] 105
    have B0 := bl_alloc (Below.refl w.heap.size w) (.cells #[.int .i64 0, .int .i64 0, .int .i64 0] 105)
    generalize w.alloc (.cells #[.int .i64 0, .int .i64 0, .int .i64 0] 105) = w1 at *
    go_cut [4] (fun v4 wc => ∃ g : Nat, v4 = .pointer (some ⟨g, 0, none⟩) ∧ w.heap.size < g ∧ Blk wc g #[.int .i64 (byt s 1), .int .i64 (numB (s.extract 2 4)), .int .i64 (numB (s.extract 6 8))] 105 ∧ Blk wc w.heap.size #[.int .i64 0, .int .i64 0, .int .i64 0] 105 ∧ Below w.heap.size w wc)
    case first =>
      go_region_held3 (fun W => Below w1.heap.size w1 W) (first | ((repeat (with_reducible first | exact Below.refl _ _ | assumption | apply bl_alloc | apply bl_drew | apply bl_drewN | (refine bl_setn ?_ (by assumption)) | (refine bl_step ?_ (by assumption)) | fail)); done) | fail) (first | (go_at_call 81; refine (num_c _ _ (by assumption)).mono ?_; rintro e w' ⟨rfl, rfl⟩) | fail)
      all_goals (go_wp2_with fail; go_meet; exact ⟨_, rfl, K0.lt, (Blk.new _ _ _).drew, (K0.alloc _).drew, bl_drew (bl_alloc B0 _)⟩)
    case rest =>
      obtain ⟨g, rfl, hg, K1, K2, HB⟩ := hcut
      clear K0 B0
      obtain ⟨_, _, _, _, _, _, _⟩ := Blk.all3 K1
      obtain ⟨_, _, _, _, _, _, _⟩ := Blk.all3 K2
      have hne : w.heap.size ≠ g := by omega
      have hne2 : g ≠ w.heap.size := by omega
      have HS := Lib.hid hs
      clear hs e1 e2 e0 e3
      cases hm : setMay (byt s 1) (numB (s.extract 2 4)) (numB (s.extract 6 8))
      · have hg : gotS s = false := by simp [gotS, hm]
        have p1 : supE (byt s 1) (numB (s.extract 2 4)) (numB (s.extract 6 8)) = 1300 := by simp [supE, hm]
        clear hm
        go_wp2_with (first | (go_at_call 184; refine (sput_c _ _ _ _).mono ?_; rintro e w' ⟨rfl, hb⟩; have HB := bl_step zq4 hb; have K1 := Blk.below zq16 hb; obtain ⟨_, _, _, _, _, _, _⟩ := Blk.all3 K1; have K2 := Blk.below zq33 hb; obtain ⟨_, _, _, _, _, _, _⟩ := Blk.all3 K2) | fail)
        have d0 : w'.cell? ⟨w.heap.size, 0, none⟩ = some (.int .i64 0) := K2.cell 0
        have d1 : w'.cell? ⟨w.heap.size, 1, none⟩ = some (.int .i64 0) := K2.cell 1
        have d2 : w'.cell? ⟨w.heap.size, 2, none⟩ = some (.int .i64 0) := K2.cell 2
        exact bodyPost_ret (v := .tuple #[.agg #[.int .i64 0, .int .i64 0, .int .i64 0], .int .i64 1300]) (by simp [results, Tryz.results132, go_sem, d0, d1, d2]) rfl ⟨by simp [gotW, hg], zq1⟩
      · have p1 : supE (byt s 1) (numB (s.extract 2 4)) (numB (s.extract 6 8)) = 0 := by simp [supE, hm]
        by_cases hp : supB (byt s 1) (numB (s.extract 2 4)) (numB (s.extract 6 8)) = s
        · have q1 := eqs_t hp
          have hg : gotS s = true := by simp [gotS, hm, hp, HS.out]
          clear hp hm
          go_wp2_with (first | (go_at_call 184; refine (sput_c _ _ _ _).mono ?_; rintro e w' ⟨rfl, hb⟩; have HB := bl_step zq4 hb; have K1 := Blk.below zq16 hb; obtain ⟨_, _, _, _, _, _, _⟩ := Blk.all3 K1; have K2 := Blk.below zq33 hb; obtain ⟨_, _, _, _, _, _, _⟩ := Blk.all3 K2) | fail)
          have d0 : w'.cell? ⟨w.heap.size, 0, none⟩ = some (.int .i64 0) := K2.cell 0
          have d1 : w'.cell? ⟨w.heap.size, 1, none⟩ = some (.int .i64 0) := K2.cell 1
          have d2 : w'.cell? ⟨w.heap.size, 2, none⟩ = some (.int .i64 0) := K2.cell 2
          exact bodyPost_ret (v := .tuple #[.agg #[.int .i64 (byt s 1), .int .i64 (numB (s.extract 2 4)), .int .i64 (numB (s.extract 6 8))], .int .i64 0]) (by simp [results, Tryz.results132, go_sem, d0, d1, d2]) rfl ⟨by simp [gotW, hg], zq1⟩
        · have q1 := eqs_f hp
          have hg : gotS s = false := by simp [gotS, hp]
          clear hp hm
          go_wp2_with (first | (go_at_call 184; refine (sput_c _ _ _ _).mono ?_; rintro e w' ⟨rfl, hb⟩; have HB := bl_step zq4 hb; have K1 := Blk.below zq16 hb; obtain ⟨_, _, _, _, _, _, _⟩ := Blk.all3 K1; have K2 := Blk.below zq33 hb; obtain ⟨_, _, _, _, _, _, _⟩ := Blk.all3 K2) | fail)
          have d0 : w'.cell? ⟨w.heap.size, 0, none⟩ = some (.int .i64 0) := K2.cell 0
          have d1 : w'.cell? ⟨w.heap.size, 1, none⟩ = some (.int .i64 0) := K2.cell 1
          have d2 : w'.cell? ⟨w.heap.size, 2, none⟩ = some (.int .i64 0) := K2.cell 2
          exact bodyPost_ret (v := .tuple #[.agg #[.int .i64 0, .int .i64 0, .int .i64 0], .int .i64 1300]) (by simp [results, Tryz.results132, go_sem, d0, d1, d2]) rfl ⟨by simp [gotW, hg], zq1⟩
  · have h : ((s.size : Int) != 8) = true := by rw [bne_iff_ne]; omega
    have hg : gotS s = false := by simp [gotS, hs]
    go_enter Tryz.func132, Tryz.ntmps132
    go_wp2
    exact bodyPost_ret (v := .tuple #[.agg #[.int .i64 0, .int .i64 0, .int .i64 0], .int .i64 1300]) (by simp [results, Tryz.results132, go_sem]) rfl ⟨by simp [gotW, hg], zq1⟩
end Go.Proofs.YtccblleobcidfaaGreat.Su
end
/- Layer 13: the references' requests. -/
section
namespace Go.Proofs.YtccblleobcidfaaGreat.Su
open Go.RowKit Go.Proofs.YtccblleobcidfaaGreat.Kt Go.Proofs.YtccblleobcidfaaGreat.Lw Go.Proofs.YtccblleobcidfaaGreat.St Go.Proofs.YtccblleobcidfaaGreat.Nm
set_option linter.unusedVariables false
set_option linter.unusedSimpArgs false

set_option maxHeartbeats 3200000 in
theorem rput_2 (v l : Int) (w : World) (hm : setMay 2 v l = true) : Calls Tryz.prog 69 #[.agg #[.int .i64 2, .int .i64 v, .int .i64 l]] w fun e w' => e = .returned (.tuple #[.string (supB 2 v l), .int .i64 (supE 2 v l)]) ∧ Below w.heap.size w w' := by
    have HB := Below.refl w.heap.size w
    have K0 := Blk.new w #[.int .i64 2, .int .i64 v, .int .i64 l] 105
    have z1 := lowB_size 161 1
    have z2 := lowB_size 2 1
    have z3 := lowB_size v 2
    have z4 := lowB_size 0 2
    have z5 := lowB_size l 2
    have hw := Lib.hid (show wayI 2 = 161 by simp [wayI])
    go_enter Tryz.func69, Tryz.ntmps69
    go_wp2_with (first | (go_at_call 131; refine (rsetMay_c _ _ _ _).mono ?_; rintro e w' ⟨rfl, hb⟩; have HB := bl_step zq4 hb; have K0 := Blk.below zq7 hb; obtain ⟨_, _, _, _, _, _, _⟩ := Blk.all3 K0) | fail)
    have HC : w'.cell? ⟨w.heap.size, 0, none⟩ = some (.int .i64 2) ∧ w'.cell? ⟨w.heap.size, 1, none⟩ = some (.int .i64 v) ∧ w'.cell? ⟨w.heap.size, 2, none⟩ = some (.int .i64 l) := ⟨K0.cell 0, K0.cell 1, K0.cell 2⟩
    go_region_held3 (fun W => W.cell? ⟨w.heap.size, 0, none⟩ = some (.int .i64 2) ∧ W.cell? ⟨w.heap.size, 1, none⟩ = some (.int .i64 v) ∧ W.cell? ⟨w.heap.size, 2, none⟩ = some (.int .i64 l) ∧ Below w'.heap.size w' W) (first | (refine k3 HC ?_; (repeat (with_reducible first | exact Below.refl _ _ | (apply kz3; assumption) | apply bl_alloc | apply bl_drew | apply bl_drewN | (refine bl_setn ?_ (by apply kz3; assumption)) | (refine bl_step ?_ (by assumption)) | fail)); done) | fail) (first | (go_at_call 110; refine (rlow_c _ _ _ (by omega) (by omega)).mono ?_; rintro e wq ⟨rfl, hb⟩) | fail)
    go_wp2
    go_ret2
    exact ⟨by simp [supB, supE, hm, hw.out], bl_step HB (kz3 (by assumption))⟩
set_option maxHeartbeats 3200000 in
theorem rput_3 (v l : Int) (w : World) (hm : setMay 3 v l = true) : Calls Tryz.prog 69 #[.agg #[.int .i64 3, .int .i64 v, .int .i64 l]] w fun e w' => e = .returned (.tuple #[.string (supB 3 v l), .int .i64 (supE 3 v l)]) ∧ Below w.heap.size w w' := by
    have HB := Below.refl w.heap.size w
    have K0 := Blk.new w #[.int .i64 3, .int .i64 v, .int .i64 l] 105
    have z1 := lowB_size 161 1
    have z2 := lowB_size 3 1
    have z3 := lowB_size v 2
    have z4 := lowB_size 0 2
    have z5 := lowB_size l 2
    have hw := Lib.hid (show wayI 3 = 161 by simp [wayI])
    go_enter Tryz.func69, Tryz.ntmps69
    go_wp2_with (first | (go_at_call 131; refine (rsetMay_c _ _ _ _).mono ?_; rintro e w' ⟨rfl, hb⟩; have HB := bl_step zq4 hb; have K0 := Blk.below zq7 hb; obtain ⟨_, _, _, _, _, _, _⟩ := Blk.all3 K0) | fail)
    have HC : w'.cell? ⟨w.heap.size, 0, none⟩ = some (.int .i64 3) ∧ w'.cell? ⟨w.heap.size, 1, none⟩ = some (.int .i64 v) ∧ w'.cell? ⟨w.heap.size, 2, none⟩ = some (.int .i64 l) := ⟨K0.cell 0, K0.cell 1, K0.cell 2⟩
    go_region_held3 (fun W => W.cell? ⟨w.heap.size, 0, none⟩ = some (.int .i64 3) ∧ W.cell? ⟨w.heap.size, 1, none⟩ = some (.int .i64 v) ∧ W.cell? ⟨w.heap.size, 2, none⟩ = some (.int .i64 l) ∧ Below w'.heap.size w' W) (first | (refine k3 HC ?_; (repeat (with_reducible first | exact Below.refl _ _ | (apply kz3; assumption) | apply bl_alloc | apply bl_drew | apply bl_drewN | (refine bl_setn ?_ (by apply kz3; assumption)) | (refine bl_step ?_ (by assumption)) | fail)); done) | fail) (first | (go_at_call 110; refine (rlow_c _ _ _ (by omega) (by omega)).mono ?_; rintro e wq ⟨rfl, hb⟩) | fail)
    go_wp2
    go_ret2
    exact ⟨by simp [supB, supE, hm, hw.out], bl_step HB (kz3 (by assumption))⟩
set_option maxHeartbeats 3200000 in
theorem rput_5 (v l : Int) (w : World) (hm : setMay 5 v l = true) : Calls Tryz.prog 69 #[.agg #[.int .i64 5, .int .i64 v, .int .i64 l]] w fun e w' => e = .returned (.tuple #[.string (supB 5 v l), .int .i64 (supE 5 v l)]) ∧ Below w.heap.size w w' := by
    have HB := Below.refl w.heap.size w
    have K0 := Blk.new w #[.int .i64 5, .int .i64 v, .int .i64 l] 105
    have z1 := lowB_size 161 1
    have z2 := lowB_size 5 1
    have z3 := lowB_size v 2
    have z4 := lowB_size 0 2
    have z5 := lowB_size l 2
    have hw := Lib.hid (show wayI 5 = 161 by simp [wayI])
    go_enter Tryz.func69, Tryz.ntmps69
    go_wp2_with (first | (go_at_call 131; refine (rsetMay_c _ _ _ _).mono ?_; rintro e w' ⟨rfl, hb⟩; have HB := bl_step zq4 hb; have K0 := Blk.below zq7 hb; obtain ⟨_, _, _, _, _, _, _⟩ := Blk.all3 K0) | fail)
    have HC : w'.cell? ⟨w.heap.size, 0, none⟩ = some (.int .i64 5) ∧ w'.cell? ⟨w.heap.size, 1, none⟩ = some (.int .i64 v) ∧ w'.cell? ⟨w.heap.size, 2, none⟩ = some (.int .i64 l) := ⟨K0.cell 0, K0.cell 1, K0.cell 2⟩
    go_region_held3 (fun W => W.cell? ⟨w.heap.size, 0, none⟩ = some (.int .i64 5) ∧ W.cell? ⟨w.heap.size, 1, none⟩ = some (.int .i64 v) ∧ W.cell? ⟨w.heap.size, 2, none⟩ = some (.int .i64 l) ∧ Below w'.heap.size w' W) (first | (refine k3 HC ?_; (repeat (with_reducible first | exact Below.refl _ _ | (apply kz3; assumption) | apply bl_alloc | apply bl_drew | apply bl_drewN | (refine bl_setn ?_ (by apply kz3; assumption)) | (refine bl_step ?_ (by assumption)) | fail)); done) | fail) (first | (go_at_call 110; refine (rlow_c _ _ _ (by omega) (by omega)).mono ?_; rintro e wq ⟨rfl, hb⟩) | fail)
    go_wp2
    go_ret2
    exact ⟨by simp [supB, supE, hm, hw.out], bl_step HB (kz3 (by assumption))⟩
set_option maxHeartbeats 3200000 in
theorem rput_n (c v l : Int) (w : World) (h2 : ¬ c = 2) (h3 : ¬ c = 3) (h5 : ¬ c = 5) (hm : setMay c v l = true) : Calls Tryz.prog 69 #[.agg #[.int .i64 c, .int .i64 v, .int .i64 l]] w fun e w' => e = .returned (.tuple #[.string (supB c v l), .int .i64 (supE c v l)]) ∧ Below w.heap.size w w' := by
    have HB := Below.refl w.heap.size w
    have K0 := Blk.new w #[.int .i64 c, .int .i64 v, .int .i64 l] 105
    have z1 := lowB_size 33 1
    have z2 := lowB_size c 1
    have z3 := lowB_size v 2
    have z4 := lowB_size 0 2
    have z5 := lowB_size l 2
    have hw := Lib.hid (show wayI c = 33 by simp [wayI, h2, h3, h5])
    have b2 : (c == 2) = false := by simp [h2]
    have b3 : (c == 3) = false := by simp [h3]
    have b5 : (c == 5) = false := by simp [h5]
    go_enter Tryz.func69, Tryz.ntmps69
    go_wp2_with (first | (go_at_call 131; refine (rsetMay_c _ _ _ _).mono ?_; rintro e w' ⟨rfl, hb⟩; have HB := bl_step zq4 hb; have K0 := Blk.below zq7 hb; obtain ⟨_, _, _, _, _, _, _⟩ := Blk.all3 K0) | fail)
    have HC : w'.cell? ⟨w.heap.size, 0, none⟩ = some (.int .i64 c) ∧ w'.cell? ⟨w.heap.size, 1, none⟩ = some (.int .i64 v) ∧ w'.cell? ⟨w.heap.size, 2, none⟩ = some (.int .i64 l) := ⟨K0.cell 0, K0.cell 1, K0.cell 2⟩
    go_region_held3 (fun W => W.cell? ⟨w.heap.size, 0, none⟩ = some (.int .i64 c) ∧ W.cell? ⟨w.heap.size, 1, none⟩ = some (.int .i64 v) ∧ W.cell? ⟨w.heap.size, 2, none⟩ = some (.int .i64 l) ∧ Below w'.heap.size w' W) (first | (refine k3 HC ?_; (repeat (with_reducible first | exact Below.refl _ _ | (apply kz3; assumption) | apply bl_alloc | apply bl_drew | apply bl_drewN | (refine bl_setn ?_ (by apply kz3; assumption)) | (refine bl_step ?_ (by assumption)) | fail)); done) | fail) (first | (go_at_call 110; refine (rlow_c _ _ _ (by omega) (by omega)).mono ?_; rintro e wq ⟨rfl, hb⟩) | fail)
    go_wp2
    go_ret2
    exact ⟨by simp [supB, supE, hm, hw.out], bl_step HB (kz3 (by assumption))⟩
set_option maxHeartbeats 1600000 in
theorem rsput_c (c v l : Int) (w : World) : Calls Tryz.prog 69 #[.agg #[.int .i64 c, .int .i64 v, .int .i64 l]] w fun e w' => e = .returned (.tuple #[.string (supB c v l), .int .i64 (supE c v l)]) ∧ Below w.heap.size w w' := by
  cases hm : setMay c v l
  · have HB := Below.refl w.heap.size w
    have K0 := Blk.new w #[.int .i64 c, .int .i64 v, .int .i64 l] 105
    go_enter Tryz.func69, Tryz.ntmps69
    go_wp2_with (first | (go_at_call 131; refine (rsetMay_c _ _ _ _).mono ?_; rintro e w' ⟨rfl, hb⟩; have HB := bl_step zq4 hb; have K0 := Blk.below zq7 hb; obtain ⟨_, _, _, _, _, _, _⟩ := Blk.all3 K0) | fail)
    go_ret2
    exact ⟨by simp [supB, supE, hm]; rfl, HB⟩
  · by_cases h2 : c = 2
    · subst h2; exact rput_2 v l w hm
    by_cases h3 : c = 3
    · subst h3; exact rput_3 v l w hm
    by_cases h5 : c = 5
    · subst h5; exact rput_5 v l w hm
    exact rput_n c v l w h2 h3 h5 hm
end Go.Proofs.YtccblleobcidfaaGreat.Su
end
/- Layer 13: plain facts: what is put comes back; what may not be. -/
section
namespace Go.Proofs.YtccblleobcidfaaGreat.Su
open Go.RowKit Go.Proofs.YtccblleobcidfaaGreat.Kt Go.Proofs.YtccblleobcidfaaGreat.Lw Go.Proofs.YtccblleobcidfaaGreat.St Go.Proofs.YtccblleobcidfaaGreat.Nm
set_option linter.unusedVariables false
set_option linter.unusedSimpArgs false

theorem may_sup {c v l : Int} (h : setMay c v l = true) : (0 ≤ c ∧ c ≤ 6) ∧ (0 ≤ v ∧ v ≤ 65535) ∧ (0 ≤ l ∧ l ≤ 32) := by
  simpa [setMay, rngB_eq] using h
theorem sup_mk {c v l : Int} (h1 : 0 ≤ c) (h2 : c < 7) (h3 : 0 ≤ v) (h4 : v < 65536) (h5 : 0 ≤ l) (h6 : l < 33) : setMay c v l = true := by
  simp [setMay, rngB_eq]; omega
theorem sup_size {c v l : Int} (h : setMay c v l = true) : (supB c v l).size = 8 := by
  have z1 := lowB_size (wayI c) 1
  have z2 := lowB_size c 1
  have z3 := lowB_size v 2
  have z4 := lowB_size 0 2
  have z5 := lowB_size l 2
  simp only [supB, h, cond_true, ByteArray.size_append]
  omega
theorem sup_list {c v l : Int} (h : setMay c v l = true) : (supB c v l).data.toList = [UInt8.ofNat (wayI c).toNat, UInt8.ofNat c.toNat, UInt8.ofNat (v % 256).toNat, UInt8.ofNat (v / 256).toNat, 0, 0, UInt8.ofNat l.toNat, 0] := by
  have hb := may_sup h
  have h0 : wayI c % 256 = wayI c := by unfold wayI; split <;> rfl
  have h1 : c % 256 = c := by omega
  have h3 : v / 256 % 256 = v / 256 := by omega
  have h5 : l % 256 = l := by omega
  have h6 : l / 256 % 256 = 0 := by omega
  simp only [supB, h, cond_true]
  simp [lowB, lowL, strOfNums, List.range_succ, h0, h1, h3, h5, h6]
theorem got_sup {c v l : Int} (h : setMay c v l = true) : gotS (supB c v l) = true ∧ gotW (supB c v l) = #[.int .i64 c, .int .i64 v, .int .i64 l] := by
  have hb := may_sup h
  have e := sup_list h
  have hs := sup_size h
  have e0 : byt (supB c v l) 1 = c := by unfold byt; rw [e]; exact byte_back c (by omega) (by omega)
  have b0 := byte_back (v % 256) (by omega) (by omega)
  have b1 := byte_back (v / 256) (by omega) (by omega)
  have b2 := byte_back l (by omega) (by omega)
  have e1 : numB ((supB c v l).extract 2 4) = v := by
    unfold numB
    simp only [ByteArray.data_extract, Array.toList_extract, List.extract, e]
    show ofL [UInt8.ofNat (v % 256).toNat, UInt8.ofNat (v / 256).toNat] = v
    simp only [ofL, b0, b1]; omega
  have e2 : numB ((supB c v l).extract 6 8) = l := by
    unfold numB
    simp only [ByteArray.data_extract, Array.toList_extract, List.extract, e]
    show ofL [UInt8.ofNat l.toNat, 0] = l
    simp only [ofL, b2]; simp
  have hg : gotS (supB c v l) = true := by simp [gotS, hs, e0, e1, e2, h]
  exact ⟨hg, by simp [gotW, hg, e0, e1, e2]⟩
end Go.Proofs.YtccblleobcidfaaGreat.Su
end
