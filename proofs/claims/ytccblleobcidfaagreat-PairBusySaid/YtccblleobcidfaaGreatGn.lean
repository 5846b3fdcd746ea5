/- Texts laid as one: Ans Id Idc Anr Anl Anp Each Map Tab. -/
import Derived.Test.YtccblleobcidfaaGreatGb
import Derived.Orders
import Derived.MapKept
import Derived.Maps.OwnSet
/- Layer 14: statuses: what the program's and the references' functions answer. -/
section
namespace Go.Proofs.YtccblleobcidfaaGreat.An
open Go.RowKit Go.Proofs.YtccblleobcidfaaGreat.Kt Go.Proofs.YtccblleobcidfaaGreat.Lw Go.Proofs.YtccblleobcidfaaGreat.St Go.Proofs.YtccblleobcidfaaGreat.Nm
set_option linter.unusedVariables false
set_option linter.unusedSimpArgs false


set_option maxHeartbeats 400000 in
theorem state_c (x : Int) (w : World) : Calls Tryz.prog 172 #[.int .i64 x] w fun e w' => e = .returned (.bool (rngB x 0 7)) ∧ w = w' := by
  go_enter Tryz.func172, Tryz.ntmps172
  go_wp2
  all_goals (go_ret; exact ⟨by simp [rngB]; omega, rfl⟩)
set_option maxHeartbeats 400000 in
theorem status_c (x : Int) (w : World) : Calls Tryz.prog 173 #[.int .i64 x] w fun e w' => e = .returned (.bool (rngB x 0 6)) ∧ w = w' := by
  go_enter Tryz.func173, Tryz.ntmps173
  go_wp2
  all_goals (go_ret; exact ⟨by simp [rngB]; omega, rfl⟩)
def ansMay (st tk sta : Int) : Bool := rngB st 0 6 && (rngB sta 0 7 && rngB tk 0 255)
set_option maxHeartbeats 400000 in
theorem ansMay_c (st tk sta : Int) (w : World) : Calls Tryz.prog 269 #[.agg #[.int .i64 st, .int .i64 tk, .int .i64 sta]] w fun e w' => e = .returned (.bool (ansMay st tk sta)) ∧ Below w.heap.size w w' := by
  go_enter Tryz.func269, Tryz.ntmps269
  go_wp2_with (first | (go_at_call 172; refine (state_c _ _).mono ?_; rintro e w' ⟨rfl, rfl⟩) | (go_at_call 173; refine (status_c _ _).mono ?_; rintro e w' ⟨rfl, rfl⟩))
  all_goals go_ret
  all_goals (refine ⟨?_, bl_alloc (Below.refl _ _) _⟩; have h255 : rngB tk 0 255 = (decide (0 ≤ tk) && decide (tk ≤ 255)) := rfl; first | (simp [ansMay, h255, *]; done) | (simp [ansMay, h255, *]; omega))
def putB (st tk sta : Int) : ByteArray := bif ansMay st tk sta then lowB st 1 ++ lowB tk 3 ++ lowB sta 2 else ByteArray.empty
def putE (st tk sta : Int) : Int := bif ansMay st tk sta then 0 else 1400
set_option maxHeartbeats 800000 in
theorem put_c (st tk sta : Int) (w : World) : Calls Tryz.prog 244 #[.agg #[.int .i64 st, .int .i64 tk, .int .i64 sta]] w fun e w' => e = .returned (.tuple #[.string (putB st tk sta), .int .i64 (putE st tk sta)]) ∧ Below w.heap.size w w' := by
  cases hm : ansMay st tk sta
  · go_enter Tryz.func244, Tryz.ntmps244
    go_wp2_with (go_at_call 269; refine (ansMay_c _ _ _ _).mono ?_; rintro e w' ⟨rfl, hb⟩; obtain ⟨hc, hf, hl, hn1, hn2⟩ := keep hb)
    go_ret2
    exact ⟨by simp [putB, putE, hm]; rfl, zq1⟩
  · go_enter Tryz.func244, Tryz.ntmps244
    go_wp2_with (go_at_call 269; refine (ansMay_c _ _ _ _).mono ?_; rintro e w' ⟨rfl, hb⟩; obtain ⟨hc, hf, hl, hn1, hn2⟩ := keep hb)
    have HC : w'.cell? ⟨w.heap.size, 0, none⟩ = some (.int .i64 st) ∧ w'.cell? ⟨w.heap.size, 1, none⟩ = some (.int .i64 tk) ∧ w'.cell? ⟨w.heap.size, 2, none⟩ = some (.int .i64 sta) := ⟨cb hb (by simp), cb hb (by simp), cb hb (by simp)⟩
    have HB : Below w.heap.size w w' := zq1
    have z1 := lowB_size st 1
    have z2 := lowB_size tk 3
    have z3 := lowB_size sta 2
    clear hc hf hl hn1 hn2 hb
    go_region_held3 (fun W => W.cell? ⟨w.heap.size, 0, none⟩ = some (.int .i64 st) ∧ W.cell? ⟨w.heap.size, 1, none⟩ = some (.int .i64 tk) ∧ W.cell? ⟨w.heap.size, 2, none⟩ = some (.int .i64 sta) ∧ Below w'.heap.size w' W) (first | (refine k3 HC ?_; (repeat (with_reducible first | exact Below.refl _ _ | (apply kz3; assumption) | apply bl_alloc | apply bl_drew | apply bl_drewN | (refine bl_setn ?_ (by apply kz3; assumption)) | (refine bl_step ?_ (by assumption)) | fail)); done) | fail) (first | (go_at_call 129; refine (low_c _ _ _ (by omega) (by omega)).mono ?_; rintro e wq ⟨rfl, hb⟩) | fail)
    go_wp2
    go_ret2
    exact ⟨by simp [putB, putE, hm], bl_step HB (kz3 (by assumption))⟩

def gotB (s : ByteArray) : Bool := decide (s.size = 6) && ansMay (byt s 0) (numB (s.extract 1 4)) (numB (s.extract 4 6))
def gotV (s : ByteArray) : Array Value := bif gotB s then #[.int .i64 (byt s 0), .int .i64 (numB (s.extract 1 4)), .int .i64 (numB (s.extract 4 6))] else #[.int .i64 0, .int .i64 0, .int .i64 0]
set_option maxHeartbeats 800000 in
theorem get_c (s : ByteArray) (w : World) : Calls Tryz.prog 255 #[.string s] w fun e w' => e = .returned (.tuple #[.agg (gotV s), .int .i64 (bif gotB s then 0 else 1400)]) ∧ Below w.heap.size w w' := by
  by_cases hs : s.size = 6
  · have e1 : (s.extract 1 4).size ≤ 4 := by simp; omega
    have e2 : (s.extract 4 6).size ≤ 4 := by simp; omega
    have e0 := byt_at s 0 (by omega)
    have e3 := byt_wrap s 0
    go_enter Tryz.func255, Tryz.ntmps255
    go_wp2
    have K0 := Blk.new w #[.int .i64 0, .int .i64 0, .int .i64 0] 111
    have B0 := bl_alloc (Below.refl w.heap.size w) (.cells #[.int .i64 0, .int .i64 0, .int .i64 0] 111)
    generalize w.alloc (.cells #[.int .i64 0, .int .i64 0, .int .i64 0] 111) = w1 at *
    go_cut [4] (fun v4 wc => ∃ g : Nat, v4 = .pointer (some ⟨g, 0, none⟩) ∧ w.heap.size < g ∧ Blk wc g #[.int .i64 (byt s 0), .int .i64 (numB (s.extract 1 4)), .int .i64 (numB (s.extract 4 6))] 111 ∧ Blk wc w.heap.size #[.int .i64 0, .int .i64 0, .int .i64 0] 111 ∧ Below w.heap.size w wc)
    case first =>
      go_region_held3 (fun W => Below w1.heap.size w1 W) (first | ((repeat (with_reducible first | exact Below.refl _ _ | assumption | apply bl_alloc | apply bl_drew | apply bl_drewN | (refine bl_setn ?_ (by assumption)) | (refine bl_step ?_ (by assumption)) | fail)); done) | fail) (first | (go_at_call 81; refine (num_c _ _ (by assumption)).mono ?_; rintro e w' ⟨rfl, rfl⟩) | fail)
      all_goals (go_wp2_with fail; go_meet; exact ⟨_, rfl, K0.lt, (Blk.new _ _ _).drew, (K0.alloc _).drew, bl_drew (bl_alloc B0 _)⟩)
    case rest =>
      obtain ⟨g, rfl, hg, K1, K2, B2⟩ := hcut
      have HK1 := Lib.hid K1
      have HK2 := Lib.hid K2
      have HB2 := Lib.hid B2
      have c0 := K1.cell 0
      have c1 := K1.cell 1
      have c2 := K1.cell 2
      clear K1 K2 B2 K0 B0
      go_wp2_with fail
      refine (ansMay_c _ _ _ _).mono ?_
      rintro e w2 ⟨rfl, hb⟩
      have K3 := HK1.out.below hb
      have K4 := HK2.out.below hb
      have B3 := Lib.hid (bl_step HB2.out hb)
      clear c0 c1 c2 hb
      have c0 := K3.cell 0
      have c1 := K3.cell 1
      have c2 := K3.cell 2
      have d0 : w2.cell? ⟨w.heap.size, 0, none⟩ = some (.int .i64 0) := K4.cell 0
      have d1 : w2.cell? ⟨w.heap.size, 1, none⟩ = some (.int .i64 0) := K4.cell 1
      have d2 : w2.cell? ⟨w.heap.size, 2, none⟩ = some (.int .i64 0) := K4.cell 2
      have f0 := K4.frozen 0
      have f1 := K4.frozen 1
      have f2 := K4.frozen 2
      have hne : w.heap.size ≠ g := by omega
      have hne2 : g ≠ w.heap.size := by omega
      clear K3 K4
      cases hm : ansMay (byt s 0) (numB (s.extract 1 4)) (numB (s.extract 4 6))
      · have hg : gotB s = false := by simp [gotB, hm]
        go_wp2
        have B4 := B3.out
        exact bodyPost_ret (v := .tuple #[.agg #[.int .i64 0, .int .i64 0, .int .i64 0], .int .i64 1400]) (by simp [results, Tryz.results255, go_sem, d0, d1, d2]) rfl ⟨by simp [gotV, hg], zq1⟩
      · have hg : gotB s = true := by simp [gotB, hm, hs]
        go_wp2
        have B4 := B3.out
        exact bodyPost_ret (v := .tuple #[.agg #[.int .i64 (byt s 0), .int .i64 (numB (s.extract 1 4)), .int .i64 (numB (s.extract 4 6))], .int .i64 0]) (by simp [results, Tryz.results255, go_sem, d0, d1, d2]) rfl ⟨by simp [gotV, hg], zq1⟩
  · have h : ((s.size : Int) != 6) = true := by rw [bne_iff_ne]; omega
    have hg : gotB s = false := by simp [gotB, hs]
    go_enter Tryz.func255, Tryz.ntmps255
    go_wp2
    exact bodyPost_ret (v := .tuple #[.agg #[.int .i64 0, .int .i64 0, .int .i64 0], .int .i64 1400]) (by simp [results, Tryz.results255, go_sem]) rfl ⟨by simp [gotV, hg], zq1⟩

set_option maxHeartbeats 400000 in
theorem rstate_c (x : Int) (w : World) : Calls Tryz.prog 238 #[.int .i64 x] w fun e w' => e = .returned (.bool (rngB x 0 7)) ∧ w = w' := by
  go_enter Tryz.func238, Tryz.ntmps238
  go_wp2_with (go_at_call 109; refine (upTo_c _ _ _ _).mono ?_; rintro e w' ⟨rfl, rfl⟩)
  go_ret
  exact ⟨rfl, rfl⟩
set_option maxHeartbeats 400000 in
theorem rstatus_c (x : Int) (w : World) : Calls Tryz.prog 239 #[.int .i64 x] w fun e w' => e = .returned (.bool (rngB x 0 6)) ∧ w = w' := by
  go_enter Tryz.func239, Tryz.ntmps239
  go_wp2_with (go_at_call 109; refine (upTo_c _ _ _ _).mono ?_; rintro e w' ⟨rfl, rfl⟩)
  go_ret
  exact ⟨rfl, rfl⟩
set_option maxHeartbeats 400000 in
theorem ransMay_c (st tk sta : Int) (w : World) : Calls Tryz.prog 265 #[.agg #[.int .i64 st, .int .i64 tk, .int .i64 sta]] w fun e w' => e = .returned (.bool (ansMay st tk sta)) ∧ Below w.heap.size w w' := by
  go_enter Tryz.func265, Tryz.ntmps265
  go_wp2_with (first | (go_at_call 238; refine (rstate_c _ _).mono ?_; rintro e w' ⟨rfl, rfl⟩) | (go_at_call 239; refine (rstatus_c _ _).mono ?_; rintro e w' ⟨rfl, rfl⟩) | (go_at_call 109; refine (upTo_c _ _ _ _).mono ?_; rintro e w' ⟨rfl, rfl⟩) | fail)
  all_goals (go_ret; exact ⟨by simp [ansMay, *], zq1⟩)
theorem low_two (x : Int) (h0 : 0 ≤ x) (h1 : x < 256) : lowB x 1 ++ lowB 0 1 = lowB x 2 := by
  apply ext_data
  have : x / 256 % 256 = 0 := by omega
  simp [lowB, lowL, strOfNums, List.range_succ, this]
theorem may_sta {st tk sta : Int} (h : ansMay st tk sta = true) : (0 ≤ st ∧ st ≤ 6) ∧ (0 ≤ sta ∧ sta ≤ 7) ∧ (0 ≤ tk ∧ tk ≤ 255) := by
  simpa [ansMay, rngB_eq] using h
set_option maxHeartbeats 1600000 in
theorem rput_c (st tk sta : Int) (w : World) : Calls Tryz.prog 223 #[.agg #[.int .i64 st, .int .i64 tk, .int .i64 sta]] w fun e w' => e = .returned (.tuple #[.string (putB st tk sta), .int .i64 (putE st tk sta)]) ∧ Below w.heap.size w w' := by
  have HB := Below.refl w.heap.size w
  have K0 := Blk.new w #[.int .i64 st, .int .i64 tk, .int .i64 sta] 111
  cases hm : ansMay st tk sta
  · go_enter Tryz.func223, Tryz.ntmps223
    go_wp2_with (first | (go_at_call 265; refine (ransMay_c _ _ _ _).mono ?_; rintro e w' ⟨rfl, hb⟩; have HB := bl_step zq4 hb; have K0 := Blk.below zq7 hb; obtain ⟨_, _, _, _, _, _, _⟩ := Blk.all3 K0) | fail)
    go_ret2
    exact ⟨by simp [putB, putE, hm]; rfl, HB⟩
  · have hb := may_sta hm
    have h2 := Lib.hid (low_two sta hb.2.1.1 (by omega))
    clear hb
    go_enter Tryz.func223, Tryz.ntmps223
    go_wp2_with (first | (go_at_call 265; refine (ransMay_c _ _ _ _).mono ?_; rintro e w' ⟨rfl, hb⟩; have HB := bl_step zq4 hb; have K0 := Blk.below zq7 hb; obtain ⟨_, _, _, _, _, _, _⟩ := Blk.all3 K0) | fail)
    have HC : w'.cell? ⟨w.heap.size, 0, none⟩ = some (.int .i64 st) ∧ w'.cell? ⟨w.heap.size, 1, none⟩ = some (.int .i64 tk) ∧ w'.cell? ⟨w.heap.size, 2, none⟩ = some (.int .i64 sta) := ⟨K0.cell 0, K0.cell 1, K0.cell 2⟩
    have z1 := lowB_size st 1
    have z2 := lowB_size tk 3
    have z3 := lowB_size sta 1
    have z4 := lowB_size 0 1
    go_region_held3 (fun W => W.cell? ⟨w.heap.size, 0, none⟩ = some (.int .i64 st) ∧ W.cell? ⟨w.heap.size, 1, none⟩ = some (.int .i64 tk) ∧ W.cell? ⟨w.heap.size, 2, none⟩ = some (.int .i64 sta) ∧ Below w'.heap.size w' W) (first | (refine k3 HC ?_; (repeat (with_reducible first | exact Below.refl _ _ | (apply kz3; assumption) | apply bl_alloc | apply bl_drew | apply bl_drewN | (refine bl_setn ?_ (by apply kz3; assumption)) | (refine bl_step ?_ (by assumption)) | fail)); done) | fail) (first | (go_at_call 110; refine (rlow_c _ _ _ (by omega) (by omega)).mono ?_; rintro e wq ⟨rfl, hb⟩) | fail)
    go_wp2
    go_ret2
    exact ⟨by simp [putB, putE, hm, ← h2.out, ByteArray.append_assoc], bl_step HB (kz3 (by assumption))⟩
end Go.Proofs.YtccblleobcidfaaGreat.An
end
/- Layer 12: whom a file is for: what the program's and the references' functions answer; the laws' walks. -/
section
namespace Go.Proofs.YtccblleobcidfaaGreat.Id
open Go.RowKit Go.Proofs.YtccblleobcidfaaGreat.Kt
set_option linter.unusedVariables false
set_option linter.unusedSimpArgs false

set_option maxHeartbeats 400000 in
theorem enum_c (x : Int) (w : World) : Calls Tryz.prog 30 #[.int .i64 x] w fun e w' => e = .returned (.int .i64 x) ∧ w = w' := by
  go_enter Tryz.func30, Tryz.ntmps30
  go_wp2
  go_ret
  exact ⟨rfl, rfl⟩
set_option maxHeartbeats 400000 in
theorem upTo_c (x a b : Int) (w : World) : Calls Tryz.prog 109 #[.int .i64 x, .int .i64 a, .int .i64 b] w fun e w' => e = .returned (.bool (rngB x a b)) ∧ w = w' := by
  by_cases h : a ≤ x
  · go_enter Tryz.func109, Tryz.ntmps109
    go_wp2
    all_goals (go_ret; exact ⟨by first | (simp [rngB, h]; done) | (simp [rngB]; omega), rfl⟩)
  · go_enter Tryz.func109, Tryz.ntmps109
    go_wp2
    all_goals (go_ret; exact ⟨by first | (simp [rngB, h]; done) | (simp [rngB]; omega), rfl⟩)
set_option maxHeartbeats 400000 in
theorem id_c (x : Int) (w : World) : Calls Tryz.prog 145 #[.int .i64 x] w fun e w' => e = .returned (.bool (rngB x 0 65535)) ∧ w = w' := by
  by_cases h : 0 ≤ x
  · go_enter Tryz.func145, Tryz.ntmps145
    go_wp2
    all_goals (go_ret; exact ⟨by first | (simp [rngB, h]; done) | (simp [rngB]; omega), rfl⟩)
  · go_enter Tryz.func145, Tryz.ntmps145
    go_wp2
    all_goals (go_ret; exact ⟨by first | (simp [rngB, h]; done) | (simp [rngB]; omega), rfl⟩)
set_option maxHeartbeats 400000 in
theorem idMay_c (x : Int) (w : World) : Calls Tryz.prog 169 #[.int .i64 x] w fun e w' => e = .returned (.bool (rngB x 0 65535)) ∧ w = w' := by
  go_enter Tryz.func169, Tryz.ntmps169
  go_wp2_with (go_at_call 109; refine (upTo_c _ _ _ _).mono ?_; rintro e w' ⟨rfl, rfl⟩)
  go_ret
  exact ⟨rfl, rfl⟩
def mayB (v p r : Int) : Bool := rngB v 0 65535 && (rngB p 0 65535 && rngB r 0 65535)
set_option maxHeartbeats 400000 in
theorem may_c (v p r : Int) (w : World) : Calls Tryz.prog 77 #[.agg #[.int .i64 v, .int .i64 p, .int .i64 r]] w fun e w' => e = .returned (.bool (mayB v p r)) ∧ Below w.heap.size w w' := by
  go_enter Tryz.func77, Tryz.ntmps77
  go_wp2_with (go_at_call 145; refine (id_c _ _).mono ?_; rintro e w' ⟨rfl, rfl⟩)
  all_goals (go_ret; exact ⟨by simp [mayB, *], zq1⟩)
set_option maxHeartbeats 400000 in
theorem idsMay_c (v p r : Int) (w : World) : Calls Tryz.prog 103 #[.agg #[.int .i64 v, .int .i64 p, .int .i64 r]] w fun e w' => e = .returned (.bool (mayB v p r)) ∧ Below w.heap.size w w' := by
  go_enter Tryz.func103, Tryz.ntmps103
  go_wp2_with (go_at_call 169; refine (idMay_c _ _).mono ?_; rintro e w' ⟨rfl, rfl⟩)
  all_goals (go_ret; exact ⟨by simp [mayB, *], zq1⟩)
def fitsB (a b : Int) : Bool := a == b || a == 65535
set_option maxHeartbeats 400000 in
theorem fits_c (a b : Int) (w : World) : Calls Tryz.prog 183 #[.int .i64 a, .int .i64 b] w fun e w' => e = .returned (.bool (fitsB a b)) ∧ w = w' := by
  go_enter Tryz.func183, Tryz.ntmps183
  go_wp2
  all_goals (go_ret; exact ⟨by simp [fitsB, *], rfl⟩)
/-- is what is for a for b? -/
def matchB (v p r v' p' r' : Int) : Bool := (mayB v p r && mayB v' p' r') && (fitsB v v' && (fitsB p p' && fitsB r r'))
def matchE (v p r v' p' r' : Int) : Int := bif mayB v p r && mayB v' p' r' then 0 else 1200
set_option maxHeartbeats 800000 in
theorem match_c (v p r v' p' r' : Int) (w : World) : Calls Tryz.prog 130 #[.agg #[.int .i64 v, .int .i64 p, .int .i64 r], .agg #[.int .i64 v', .int .i64 p', .int .i64 r']] w fun e w' =>
    e = .returned (.tuple #[.bool (matchB v p r v' p' r'), .int .i64 (matchE v p r v' p' r')]) ∧ Below w.heap.size w w' := by
  have HB := Below.refl w.heap.size w
  have K0 := Blk.new w #[.int .i64 v, .int .i64 p, .int .i64 r] 25
  have K1 := Blk.new1 w (.cells #[.int .i64 v, .int .i64 p, .int .i64 r] 25) #[.int .i64 v', .int .i64 p', .int .i64 r'] 25
  cases h1 : mayB v p r <;> cases h2 : mayB v' p' r'
  all_goals
    go_enter Tryz.func130, Tryz.ntmps130
    go_wp2_with (first | (go_at_call 77; refine (may_c _ _ _ _).mono ?_; rintro e w' ⟨rfl, hb⟩; have HB := bl_step zq4 hb; have K0 := Blk.below zq7 hb; obtain ⟨_, _, _, _, _, _, _⟩ := Blk.all3 K0; have K1 := Blk.below zq16 hb; obtain ⟨_, _, _, _, _, _, _⟩ := Blk.all3 K1) | (go_at_call 183; refine (fits_c _ _ _).mono ?_; rintro e w' ⟨rfl, rfl⟩) | fail)
    all_goals (go_ret2; exact ⟨by simp [matchB, matchE, *], HB⟩)
set_option maxHeartbeats 800000 in
theorem rmatch_c (v p r v' p' r' : Int) (w : World) : Calls Tryz.prog 162 #[.agg #[.int .i64 v, .int .i64 p, .int .i64 r], .agg #[.int .i64 v', .int .i64 p', .int .i64 r']] w fun e w' =>
    e = .returned (.tuple #[.bool (matchB v p r v' p' r'), .int .i64 (matchE v p r v' p' r')]) ∧ Below w.heap.size w w' := by
  have HB := Below.refl w.heap.size w
  have K0 := Blk.new w #[.int .i64 v, .int .i64 p, .int .i64 r] 25
  have K1 := Blk.new1 w (.cells #[.int .i64 v, .int .i64 p, .int .i64 r] 25) #[.int .i64 v', .int .i64 p', .int .i64 r'] 25
  cases h1 : mayB v p r <;> cases h2 : mayB v' p' r'
  all_goals
    go_enter Tryz.func162, Tryz.ntmps162
    go_wp2_with (first | (go_at_call 103; refine (idsMay_c _ _ _ _).mono ?_; rintro e w' ⟨rfl, hb⟩; have HB := bl_step zq4 hb; have K0 := Blk.below zq7 hb; obtain ⟨_, _, _, _, _, _, _⟩ := Blk.all3 K0; have K1 := Blk.below zq16 hb; obtain ⟨_, _, _, _, _, _, _⟩ := Blk.all3 K1) | fail)
    all_goals (go_ret2; exact ⟨by first | (simp [matchB, matchE, fitsB, h1, h2]; done) | (simp [matchB, matchE, fitsB, h1, h2]; omega) | (simp [matchB, matchE, fitsB, h1, h2]; rw [Bool.eq_iff_iff]; simp; omega), HB⟩)

-- left out: awake_c
-- left out: idents_w
end Go.Proofs.YtccblleobcidfaaGreat.Id
end
/- Layer 12: whom a file is for: contracts alone. -/
section
namespace Go.Proofs.YtccblleobcidfaaGreat.Ic
open Go.RowKit Go.Proofs.YtccblleobcidfaaGreat.Kt Go.Proofs.YtccblleobcidfaaGreat.Nm
set_option linter.unusedVariables false
set_option linter.unusedSimpArgs false

set_option maxHeartbeats 400000 in
theorem id_c (x : Int) (w : World) : Calls Tryz.prog 145 #[.int .i64 x] w fun e w' => e = .returned (.bool (rngB x 0 65535)) ∧ w = w' := by
  by_cases h : 0 ≤ x
  · go_enter Tryz.func145, Tryz.ntmps145
    go_wp2
    all_goals (go_ret; exact ⟨by first | (simp [rngB, h]; done) | (simp [rngB]; omega), rfl⟩)
  · go_enter Tryz.func145, Tryz.ntmps145
    go_wp2
    all_goals (go_ret; exact ⟨by first | (simp [rngB, h]; done) | (simp [rngB]; omega), rfl⟩)
set_option maxHeartbeats 400000 in
theorem idMay_c (x : Int) (w : World) : Calls Tryz.prog 169 #[.int .i64 x] w fun e w' => e = .returned (.bool (rngB x 0 65535)) ∧ w = w' := by
  go_enter Tryz.func169, Tryz.ntmps169
  go_wp2_with (go_at_call 109; refine (upTo_c _ _ _ _).mono ?_; rintro e w' ⟨rfl, rfl⟩)
  go_ret
  exact ⟨rfl, rfl⟩
def mayB (v p r : Int) : Bool := rngB v 0 65535 && (rngB p 0 65535 && rngB r 0 65535)
set_option maxHeartbeats 400000 in
theorem may_c (v p r : Int) (w : World) : Calls Tryz.prog 77 #[.agg #[.int .i64 v, .int .i64 p, .int .i64 r]] w fun e w' => e = .returned (.bool (mayB v p r)) ∧ Below w.heap.size w w' := by
  go_enter Tryz.func77, Tryz.ntmps77
  go_wp2_with (go_at_call 145; refine (id_c _ _).mono ?_; rintro e w' ⟨rfl, rfl⟩)
  all_goals (go_ret; exact ⟨by simp [mayB, *], zq1⟩)
set_option maxHeartbeats 400000 in
theorem idsMay_c (v p r : Int) (w : World) : Calls Tryz.prog 103 #[.agg #[.int .i64 v, .int .i64 p, .int .i64 r]] w fun e w' => e = .returned (.bool (mayB v p r)) ∧ Below w.heap.size w w' := by
  go_enter Tryz.func103, Tryz.ntmps103
  go_wp2_with (go_at_call 169; refine (idMay_c _ _).mono ?_; rintro e w' ⟨rfl, rfl⟩)
  all_goals (go_ret; exact ⟨by simp [mayB, *], zq1⟩)
def fitsB (a b : Int) : Bool := a == b || a == 65535
set_option maxHeartbeats 400000 in
theorem fits_c (a b : Int) (w : World) : Calls Tryz.prog 183 #[.int .i64 a, .int .i64 b] w fun e w' => e = .returned (.bool (fitsB a b)) ∧ w = w' := by
  go_enter Tryz.func183, Tryz.ntmps183
  go_wp2
  all_goals (go_ret; exact ⟨by simp [fitsB, *], rfl⟩)
/-- is what is for a for b? -/
def matchB (v p r v' p' r' : Int) : Bool := (mayB v p r && mayB v' p' r') && (fitsB v v' && (fitsB p p' && fitsB r r'))
def matchE (v p r v' p' r' : Int) : Int := bif mayB v p r && mayB v' p' r' then 0 else 1200
set_option maxHeartbeats 800000 in
theorem match_c (v p r v' p' r' : Int) (w : World) : Calls Tryz.prog 130 #[.agg #[.int .i64 v, .int .i64 p, .int .i64 r], .agg #[.int .i64 v', .int .i64 p', .int .i64 r']] w fun e w' =>
    e = .returned (.tuple #[.bool (matchB v p r v' p' r'), .int .i64 (matchE v p r v' p' r')]) ∧ Below w.heap.size w w' := by
  have HB := Below.refl w.heap.size w
  have K0 := Blk.new w #[.int .i64 v, .int .i64 p, .int .i64 r] 25
  have K1 := Blk.new1 w (.cells #[.int .i64 v, .int .i64 p, .int .i64 r] 25) #[.int .i64 v', .int .i64 p', .int .i64 r'] 25
  cases h1 : mayB v p r <;> cases h2 : mayB v' p' r'
  all_goals
    go_enter Tryz.func130, Tryz.ntmps130
    go_wp2_with (first | (go_at_call 77; refine (may_c _ _ _ _).mono ?_; rintro e w' ⟨rfl, hb⟩; have HB := bl_step zq4 hb; have K0 := Blk.below zq7 hb; obtain ⟨_, _, _, _, _, _, _⟩ := Blk.all3 K0; have K1 := Blk.below zq16 hb; obtain ⟨_, _, _, _, _, _, _⟩ := Blk.all3 K1) | (go_at_call 183; refine (fits_c _ _ _).mono ?_; rintro e w' ⟨rfl, rfl⟩) | fail)
    all_goals (go_ret2; exact ⟨by simp [matchB, matchE, *], HB⟩)
set_option maxHeartbeats 800000 in
theorem rmatch_c (v p r v' p' r' : Int) (w : World) : Calls Tryz.prog 162 #[.agg #[.int .i64 v, .int .i64 p, .int .i64 r], .agg #[.int .i64 v', .int .i64 p', .int .i64 r']] w fun e w' =>
    e = .returned (.tuple #[.bool (matchB v p r v' p' r'), .int .i64 (matchE v p r v' p' r')]) ∧ Below w.heap.size w w' := by
  have HB := Below.refl w.heap.size w
  have K0 := Blk.new w #[.int .i64 v, .int .i64 p, .int .i64 r] 25
  have K1 := Blk.new1 w (.cells #[.int .i64 v, .int .i64 p, .int .i64 r] 25) #[.int .i64 v', .int .i64 p', .int .i64 r'] 25
  cases h1 : mayB v p r <;> cases h2 : mayB v' p' r'
  all_goals
    go_enter Tryz.func162, Tryz.ntmps162
    go_wp2_with (first | (go_at_call 103; refine (idsMay_c _ _ _ _).mono ?_; rintro e w' ⟨rfl, hb⟩; have HB := bl_step zq4 hb; have K0 := Blk.below zq7 hb; obtain ⟨_, _, _, _, _, _, _⟩ := Blk.all3 K0; have K1 := Blk.below zq16 hb; obtain ⟨_, _, _, _, _, _, _⟩ := Blk.all3 K1) | fail)
    all_goals (go_ret2; exact ⟨by first | (simp [matchB, matchE, fitsB, h1, h2]; done) | (simp [matchB, matchE, fitsB, h1, h2]; omega) | (simp [matchB, matchE, fitsB, h1, h2]; rw [Bool.eq_iff_iff]; simp; omega), HB⟩)
end Go.Proofs.YtccblleobcidfaaGreat.Ic
end
/- Layer 14: what the references' GetAnswer answers: the same. -/
section
namespace Go.Proofs.YtccblleobcidfaaGreat.An
open Go.RowKit Go.Proofs.YtccblleobcidfaaGreat.Kt Go.Proofs.YtccblleobcidfaaGreat.Lw Go.Proofs.YtccblleobcidfaaGreat.St Go.Proofs.YtccblleobcidfaaGreat.Nm
set_option linter.unusedVariables false
set_option linter.unusedSimpArgs false

theorem six_46 (s : ByteArray) (h : s.size = 6) : numB (s.extract 4 6) = byt s 4 + 256 * byt s 5 := by
  have hl : s.data.toList.length = 6 := by simpa using h
  have e4 : s.data.toList[4]? = some (s.data.toList[4]'(by omega)) := List.getElem?_eq_getElem (by omega)
  have e5 : s.data.toList[5]? = some (s.data.toList[5]'(by omega)) := List.getElem?_eq_getElem (by omega)
  have : (s.extract 4 6).data.toList = [s.data.toList[4]'(by omega), s.data.toList[5]'(by omega)] := by
    simp only [ByteArray.data_extract, Array.toList_extract, List.extract]
    rw [List.drop_eq_getElem_cons (by omega), List.drop_eq_getElem_cons (by omega)]
    simp
  unfold numB byt
  rw [this]
  simp only [ofL, List.getD_eq_getElem?_getD, e4, e5, Option.getD_some]
  omega
theorem six_put (s : ByteArray) (h : s.size = 6) (x : Int) (h0 : 0 ≤ x) (h1 : x < 65536) : lowB (byt s 0) 1 ++ lowB (numB (s.extract 1 4)) 3 ++ lowB x 2 = s ↔ numB (s.extract 4 6) = x := by
  have e0 : lowB (byt s 0) 1 = s.extract 0 1 := by
    have := lowB_numB (s.extract 0 1)
    rw [← byt_num s 0 (by omega)] at this
    simpa [h] using this
  have e1 : lowB (numB (s.extract 1 4)) 3 = s.extract 1 4 := by
    have := lowB_numB (s.extract 1 4)
    simpa [h] using this
  have e2 : lowB (numB (s.extract 4 6)) 2 = s.extract 4 6 := by
    have := lowB_numB (s.extract 4 6)
    simpa [h] using this
  have es : s.extract 0 1 ++ s.extract 1 4 ++ s.extract 4 6 = s := by
    rw [ByteArray.extract_append_extract]
    show s.extract 0 4 ++ s.extract 4 6 = s
    rw [ByteArray.extract_append_extract]
    show s.extract 0 6 = s
    have := ByteArray.extract_zero_size (b := s)
    simpa [h] using this
  rw [e0, e1]
  constructor
  · intro hx
    have hz : (s.extract 0 1 ++ s.extract 1 4).size = 4 := by simp [h]
    have := congrArg (fun t : ByteArray => t.extract 4 6) hx
    replace this : (s.extract 0 1 ++ s.extract 1 4 ++ lowB x 2).extract 4 6 = s.extract 4 6 := this
    rw [ByteArray.extract_append_eq_right (by omega) (by rw [hz, lowB_size])] at this
    rw [← this, numB_lowB]
    omega
  · intro hx
    rw [← hx, e2, es]
theorem got_no (s : ByteArray) (h : s.size = 6) (hm : ansMay (byt s 0) (numB (s.extract 1 4)) (byt s 4) = false) : gotB s = false := by
  have hb := byt_bd s 5
  have h4 := byt_bd s 4
  have e := six_46 s h
  cases hg : gotB s
  · rfl
  · have hg' : ansMay (byt s 0) (numB (s.extract 1 4)) (numB (s.extract 4 6)) = true := by simpa [gotB, h] using hg
    have := (may_sta hg').2.1
    have h5 : byt s 5 = 0 := by omega
    rw [e, h5] at hg'
    simp at hg'
    rw [hg'] at hm
    cases hm
theorem got_yes (s : ByteArray) (h : s.size = 6) (hm : ansMay (byt s 0) (numB (s.extract 1 4)) (byt s 4) = true) : (gotB s = true ∧ numB (s.extract 4 6) = byt s 4 ∧ putB (byt s 0) (numB (s.extract 1 4)) (byt s 4) = s) ∨ (gotB s = false ∧ putB (byt s 0) (numB (s.extract 1 4)) (byt s 4) ≠ s) := by
  have hb := byt_bd s 5
  have h4 := byt_bd s 4
  have e := six_46 s h
  have hp := six_put s h (byt s 4) h4.1 (by omega)
  have e2 : putB (byt s 0) (numB (s.extract 1 4)) (byt s 4) = lowB (byt s 0) 1 ++ lowB (numB (s.extract 1 4)) 3 ++ lowB (byt s 4) 2 := by simp [putB, hm]
  rw [e2]
  by_cases h5 : byt s 5 = 0
  · left
    have e3 : numB (s.extract 4 6) = byt s 4 := by omega
    exact ⟨by simp [gotB, h, e3, hm], e3, hp.2 e3⟩
  · right
    refine ⟨?_, fun hx => h5 (by have := hp.1 hx; omega)⟩
    cases hg : gotB s
    · rfl
    · have hg' : ansMay (byt s 0) (numB (s.extract 1 4)) (numB (s.extract 4 6)) = true := by simpa [gotB, h] using hg
      have := (may_sta hg').2.1
      omega
set_option maxHeartbeats 1600000 in
theorem rget_c (s : ByteArray) (w : World) : Calls Tryz.prog 267 #[.string s] w fun e w' => e = .returned (.tuple #[.agg (gotV s), .int .i64 (bif gotB s then 0 else 1400)]) ∧ Below w.heap.size w w' := by
  by_cases hs : s.size = 6
  · have e1 : (s.extract 1 4).size ≤ 4 := by simp; omega
    have e0 := byt_at s 0 (by omega)
    have e3 := byt_wrap s 0
    have e4 := byt_at s 4 (by omega)
    have e5 := byt_wrap s 4
    go_enter Tryz.func267, Tryz.ntmps267
    go_wp2
    have K0 := Blk.new w #[.int .i64 0, .int .i64 0, .int .i64 0] 111
    have B0 := bl_alloc (Below.refl w.heap.size w) (.cells #[.int .i64 0, .int .i64 0, .int .i64 0] 111)
    generalize w.alloc (.cells #[.int .i64 0, .int .i64 0, .int .i64 0] 111) = w1 at *
    go_cut [4] (fun v4 wc => ∃ g : Nat, v4 = .pointer (some ⟨g, 0, none⟩) ∧ w.heap.size < g ∧ Blk wc g #[.int .i64 (byt s 0), .int .i64 (numB (s.extract 1 4)), .int .i64 (byt s 4)] 111 ∧ Blk wc w.heap.size #[.int .i64 0, .int .i64 0, .int .i64 0] 111 ∧ Below w.heap.size w wc)
    case first =>
      go_region_held3 (fun W => Below w1.heap.size w1 W) (first | ((repeat (with_reducible first | exact Below.refl _ _ | assumption | apply bl_alloc | apply bl_drew | apply bl_drewN | (refine bl_setn ?_ (by assumption)) | (refine bl_step ?_ (by assumption)) | fail)); done) | fail) (first | (go_at_call 216; refine (of_c _ _ (by assumption)).mono ?_; rintro e w' ⟨rfl, rfl⟩) | fail)
      all_goals (go_wp2_with fail; go_meet; exact ⟨_, rfl, K0.lt, (Blk.new _ _ _).drew, (K0.alloc _).drew, bl_drew (bl_alloc B0 _)⟩)
    case rest =>
      obtain ⟨g, rfl, hg, K1, K2, HB⟩ := hcut
      clear K0 B0
      obtain ⟨_, _, _, _, _, _, _⟩ := Blk.all3 K1
      obtain ⟨_, _, _, _, _, _, _⟩ := Blk.all3 K2
      have hne : w.heap.size ≠ g := by omega
      have hne2 : g ≠ w.heap.size := by omega
      have HS := Lib.hid hs
      have E1 := Lib.hid e1
      clear hs e1 e0 e3 e4 e5
      cases hm : ansMay (byt s 0) (numB (s.extract 1 4)) (byt s 4)
      · have hg := got_no s HS.out hm
        have p1 : putE (byt s 0) (numB (s.extract 1 4)) (byt s 4) = 1400 := by simp [putE, hm]
        clear hm
        go_wp2_with (first | (go_at_call 223; refine (rput_c _ _ _ _).mono ?_; rintro e w' ⟨rfl, hb⟩; have HB := bl_step zq4 hb; have K1 := Blk.below zq16 hb; obtain ⟨_, _, _, _, _, _, _⟩ := Blk.all3 K1; have K2 := Blk.below zq33 hb; obtain ⟨_, _, _, _, _, _, _⟩ := Blk.all3 K2) | fail)
        have d0 : w'.cell? ⟨w.heap.size, 0, none⟩ = some (.int .i64 0) := K2.cell 0
        have d1 : w'.cell? ⟨w.heap.size, 1, none⟩ = some (.int .i64 0) := K2.cell 1
        have d2 : w'.cell? ⟨w.heap.size, 2, none⟩ = some (.int .i64 0) := K2.cell 2
        exact bodyPost_ret (v := .tuple #[.agg #[.int .i64 0, .int .i64 0, .int .i64 0], .int .i64 1400]) (by simp [results, Tryz.results267, go_sem, d0, d1, d2]) rfl ⟨by simp [gotV, hg], zq1⟩
      · have p1 : putE (byt s 0) (numB (s.extract 1 4)) (byt s 4) = 0 := by simp [putE, hm]
        rcases got_yes s HS.out hm with ⟨hg, hn, hp⟩ | ⟨hg, hp⟩
        · have q1 := eqs_t hp
          have HN := Lib.hid hn
          clear hn hp hm
          go_wp2_with (first | (go_at_call 223; refine (rput_c _ _ _ _).mono ?_; rintro e w' ⟨rfl, hb⟩; have HB := bl_step zq4 hb; have K1 := Blk.below zq16 hb; obtain ⟨_, _, _, _, _, _, _⟩ := Blk.all3 K1; have K2 := Blk.below zq33 hb; obtain ⟨_, _, _, _, _, _, _⟩ := Blk.all3 K2) | fail)
          have d0 : w'.cell? ⟨w.heap.size, 0, none⟩ = some (.int .i64 0) := K2.cell 0
          have d1 : w'.cell? ⟨w.heap.size, 1, none⟩ = some (.int .i64 0) := K2.cell 1
          have d2 : w'.cell? ⟨w.heap.size, 2, none⟩ = some (.int .i64 0) := K2.cell 2
          exact bodyPost_ret (v := .tuple #[.agg #[.int .i64 (byt s 0), .int .i64 (numB (s.extract 1 4)), .int .i64 (byt s 4)], .int .i64 0]) (by simp [results, Tryz.results267, go_sem, d0, d1, d2]) rfl ⟨by simp [gotV, hg, HN.out], zq1⟩
        · have q1 := eqs_f hp
          clear hp hm
          go_wp2_with (first | (go_at_call 223; refine (rput_c _ _ _ _).mono ?_; rintro e w' ⟨rfl, hb⟩; have HB := bl_step zq4 hb; have K1 := Blk.below zq16 hb; obtain ⟨_, _, _, _, _, _, _⟩ := Blk.all3 K1; have K2 := Blk.below zq33 hb; obtain ⟨_, _, _, _, _, _, _⟩ := Blk.all3 K2) | fail)
          have d0 : w'.cell? ⟨w.heap.size, 0, none⟩ = some (.int .i64 0) := K2.cell 0
          have d1 : w'.cell? ⟨w.heap.size, 1, none⟩ = some (.int .i64 0) := K2.cell 1
          have d2 : w'.cell? ⟨w.heap.size, 2, none⟩ = some (.int .i64 0) := K2.cell 2
          exact bodyPost_ret (v := .tuple #[.agg #[.int .i64 0, .int .i64 0, .int .i64 0], .int .i64 1400]) (by simp [results, Tryz.results267, go_sem, d0, d1, d2]) rfl ⟨by simp [gotV, hg], zq1⟩
  · have h : ((s.size : Int) != 6) = true := by rw [bne_iff_ne]; omega
    have hg : gotB s = false := by simp [gotB, hs]
    go_enter Tryz.func267, Tryz.ntmps267
    go_wp2
    exact bodyPost_ret (v := .tuple #[.agg #[.int .i64 0, .int .i64 0, .int .i64 0], .int .i64 1400]) (by simp [results, Tryz.results267, go_sem]) rfl ⟨by simp [gotV, hg], zq1⟩
end Go.Proofs.YtccblleobcidfaaGreat.An
end
/- Layer 14: the laws' walks: awake, Answers. -/
section
namespace Go.Proofs.YtccblleobcidfaaGreat.An
open Go.RowKit Go.Proofs.YtccblleobcidfaaGreat.Kt Go.Proofs.YtccblleobcidfaaGreat.Lw Go.Proofs.YtccblleobcidfaaGreat.St Go.Proofs.YtccblleobcidfaaGreat.Id Go.Proofs.YtccblleobcidfaaGreat.Es
set_option linter.unusedVariables false
set_option linter.unusedSimpArgs false
attribute [local go_sem high] eqAns

end Go.Proofs.YtccblleobcidfaaGreat.An
end
/- Layer 14: plain facts: what is put comes back; what may not be. -/
section
namespace Go.Proofs.YtccblleobcidfaaGreat.An
open Go.RowKit Go.Proofs.YtccblleobcidfaaGreat.Kt Go.Proofs.YtccblleobcidfaaGreat.Lw Go.Proofs.YtccblleobcidfaaGreat.St Go.Proofs.YtccblleobcidfaaGreat.Id Go.Proofs.YtccblleobcidfaaGreat.Es
set_option linter.unusedVariables false
set_option linter.unusedSimpArgs false

theorem put_size {a t z : Int} (h : ansMay a t z = true) : (putB a t z).size = 6 := by
  have z1 := lowB_size a 1
  have z2 := lowB_size t 3
  have z3 := lowB_size z 2
  simp only [putB, h, cond_true, ByteArray.size_append]
  omega
theorem put_ex {a t z : Int} (h : ansMay a t z = true) : (putB a t z).extract 0 1 = lowB a 1 ∧ (putB a t z).extract 1 4 = lowB t 3 ∧ (putB a t z).extract 4 6 = lowB z 2 := by
  have z1 := lowB_size a 1
  have z2 := lowB_size t 3
  have z3 := lowB_size z 2
  simp only [putB, h, cond_true]
  refine ⟨?_, ?_, ?_⟩
  · rw [ByteArray.append_assoc]; exact ByteArray.extract_append_eq_left (by omega)
  · rw [ByteArray.append_assoc, show (4 : Nat) = 1 + 3 from rfl]
    have e1 : (lowB a 1 ++ (lowB t 3 ++ lowB z 2)).extract 1 (1 + 3) = (lowB t 3 ++ lowB z 2).extract 0 3 := by
      have := ByteArray.extract_append_size_add (a := lowB a 1) (b := lowB t 3 ++ lowB z 2) (i := 0) (j := 3)
      rw [z1] at this
      exact this
    rw [e1]; exact ByteArray.extract_append_eq_left (by omega)
  · exact ByteArray.extract_append_eq_right (by rw [ByteArray.size_append]; omega) (by rw [ByteArray.size_append]; omega)
theorem got_put {a t z : Int} (h : ansMay a t z = true) : gotB (putB a t z) = true ∧ gotV (putB a t z) = #[.int .i64 a, .int .i64 t, .int .i64 z] := by
  have hs := put_size h
  obtain ⟨x0, x1, x2⟩ := put_ex h
  have hb := may_sta h
  have e0 : byt (putB a t z) 0 = a := by
    rw [byt_num _ 0 (by omega), x0, numB_lowB]; omega
  have e1 : numB ((putB a t z).extract 1 4) = t := by rw [x1, numB_lowB]; omega
  have e2 : numB ((putB a t z).extract 4 6) = z := by rw [x2, numB_lowB]; omega
  have hg : gotB (putB a t z) = true := by simp [gotB, hs, e0, e1, e2, h]
  exact ⟨hg, by simp [gotV, hg, e0, e1, e2]⟩
theorem may_mk {a t z : Int} (h1 : 0 ≤ a) (h2 : a < 7) (h3 : 0 ≤ t) (h4 : t < 256) (h5 : 0 ≤ z) (h6 : z < 8) : ansMay a t z = true := by
  simp [ansMay, rngB_eq]; omega
end Go.Proofs.YtccblleobcidfaaGreat.An
end
/- A region that draws its order: some of its operations, that may come in any order among themselves, by an invariant on what is done. -/
section
namespace Go.Proofs.YtccblleobcidfaaGreat.Eh
open Go.RowKit Go.Proofs.YtccblleobcidfaaGreat.Kt
set_option linter.unusedVariables false
set_option linter.unusedSimpArgs false

def lmark (l : Array Bool) : List Nat → Array Bool
  | [] => l
  | i :: D => (lmark l D).setIfInBounds i true
theorem lmark_size (l : Array Bool) : ∀ D, (lmark l D).size = l.size
  | [] => rfl
  | i :: D => by simp [lmark, lmark_size l D]
theorem lmark_getD (l : Array Bool) (j : Nat) (hj : j < l.size) (d : Bool) : ∀ D : List Nat, (lmark l D).getD j d = (decide (j ∈ D) || l.getD j d)
  | [] => by simp [lmark]
  | i :: D => by
    have ih := lmark_getD l j hj d D
    have hs := lmark_size l D
    by_cases h : i = j
    · subst h
      have : i < (lmark l D).size := by omega
      simp [lmark, Array.getD_eq_getD_getElem?, Array.getElem?_setIfInBounds, this]
    · have h' : j ≠ i := fun e => h e.symm
      rw [show (lmark l (i :: D)).getD j d = (lmark l D).getD j d from getD_set_ne d h, ih]
      simp [h']
theorem lmark_out (l : Array Bool) (j : Nat) (hj : ¬ j < l.size) (d : Bool) (D : List Nat) : (lmark l D).getD j d = d := by
  have := lmark_size l D
  simp [Array.getD_eq_getD_getElem?, Array.getElem?_eq_none (show (lmark l D).size ≤ j by omega)]
theorem lmark_eq (l : Array Bool) (D D' : List Nat) (h : ∀ x, x ∈ D ↔ x ∈ D') : lmark l D = lmark l D' := by
  apply Array.ext
  · rw [lmark_size, lmark_size]
  · intro i h1 h2
    have hi : i < l.size := by rw [lmark_size] at h1; exact h1
    have a := lmark_getD l i hi false D
    have b := lmark_getD l i hi false D'
    have e1 : (lmark l D).getD i false = (lmark l D)[i] := by simp [Array.getD, h1]
    have e2 : (lmark l D').getD i false = (lmark l D')[i] := by simp [Array.getD, h2]
    rw [← e1, ← e2, a, b]
    simp [h i]

/-- the operations that number i waits for. -/
def deps (md : Region.Mode) (ops : Array Oper) (i : Nat) : List Nat :=
  match ops[i]? with
  | some o => (o.after.toList.filter (Region.binds md)).map (·.on)
  | none => []
theorem ready_iff (md : Region.Mode) (ops : Array Oper) (l : Array Bool) (i : Nat) :
    i ∈ Region.ready md ops l ↔ i < ops.size ∧ l.getD i true = false ∧ ∀ k ∈ deps md ops i, l.getD k false = true := by
  unfold Region.ready deps
  rw [List.mem_filter, List.mem_range]
  constructor
  · rintro ⟨h1, h2⟩
    rw [Bool.and_eq_true] at h2
    refine ⟨h1, by simpa using h2.1, ?_⟩
    have hi : ops[i]? = some ops[i] := by simp [h1]
    rw [hi] at h2 ⊢
    simp only [Option.map_some, Option.getD_some] at h2
    intro k hk
    obtain ⟨e, he, rfl⟩ := List.mem_map.1 hk
    have he' := List.mem_filter.1 he
    have h3 := Array.all_eq_true_iff_forall_mem.1 h2.2 e (by simpa using he'.1)
    rw [he'.2] at h3
    simpa using h3
  · rintro ⟨h1, h2, h3⟩
    refine ⟨h1, ?_⟩
    have hi : ops[i]? = some ops[i] := by simp [h1]
    rw [hi] at h3 ⊢
    rw [Bool.and_eq_true]
    refine ⟨by simp [h2], ?_⟩
    simp only [Option.map_some, Option.getD_some]
    refine Array.all_eq_true_iff_forall_mem.2 fun e he => ?_
    cases hb : Region.binds md e
    · simp
    · have := h3 e.on (List.mem_map.2 ⟨e, List.mem_filter.2 ⟨by simpa using he, hb⟩, rfl⟩)
      simpa using this

/-- each other operation that is not done waits for all of J, or for one that is not done and not of J. -/
def waitsFor (md : Region.Mode) (ops : Array Oper) (J : List Nat) (l : Array Bool) (i : Nat) : Bool :=
  l.getD i true || J.contains i || J.all (fun j => (deps md ops i).contains j) || (deps md ops i).any (fun k => !J.contains k && !l.getD k false)
/-- what can be asked of the region's table alone. -/
def eachOk (md : Region.Mode) (ops : Array Oper) (J : List Nat) (l : Array Bool) : Bool :=
  (l.size == ops.size) && J.all (fun j => decide (j < l.size) && !l.getD j true && (deps md ops j).all (fun k => l.getD k false)) && (List.range ops.size).all (waitsFor md ops J l)

theorem wpAny_each {P : Program} {ops : Array Oper} {Q : Exit → Act → World → Prop} {md : Region.Mode} (J : List Nat) (hJ : J.Nodup) {l : Array Bool} {a : Act} (I : List Nat → World → Prop)
    (hok : eachOk md ops J l = true) (rest : Nat)
    (step : ∀ D i w, i ∈ J → i ∉ D → (∀ x ∈ D, x ∈ J) → I D w → ∀ K : Act → World → Prop, (∀ w', I (i :: D) w' → K a w') → wpOp P ops Q i K a w)
    (fin : ∀ fuel, rest ≤ fuel → ∀ D w, (∀ x, x ∈ D ↔ x ∈ J) → I D w → wpAny P md ops Q fuel (lmark l J) a w) :
    ∀ (n fuel : Nat) (D : List Nat) (w : World), (J.filter (fun j => !D.contains j)).length ≤ n → n + rest ≤ fuel → (∀ x ∈ D, x ∈ J) → I D w → wpAny P md ops Q fuel (lmark l D) a w := by
  simp only [eachOk, Bool.and_eq_true, List.all_eq_true, decide_eq_true_eq, beq_iff_eq, Bool.not_eq_true', List.mem_range] at hok
  obtain ⟨⟨hsz, hj⟩, hw⟩ := hok
  intro n
  induction n with
  | zero =>
    intro fuel D w hn hf hD hI
    have hall : ∀ x, x ∈ J → x ∈ D := by
      intro x hx
      by_cases h : x ∈ D
      · exact h
      · have : x ∈ J.filter (fun j => !D.contains j) := List.mem_filter.2 ⟨hx, by simp [h]⟩
        have h0 : J.filter (fun j => !D.contains j) = [] := List.eq_nil_of_length_eq_zero (by omega)
        rw [h0] at this; cases this
    have hiff : ∀ x, x ∈ D ↔ x ∈ J := fun x => ⟨hD x, hall x⟩
    rw [lmark_eq l D J hiff]
    exact fin fuel (by omega) D w hiff hI
  | succ n ih =>
    intro fuel D w hn hf hD hI
    by_cases hall : ∀ x, x ∈ J → x ∈ D
    · have hiff : ∀ x, x ∈ D ↔ x ∈ J := fun x => ⟨hD x, hall x⟩
      rw [lmark_eq l D J hiff]
      exact fin fuel (by omega) D w hiff hI
    · obtain ⟨j, hj1, hj2⟩ : ∃ j, j ∈ J ∧ j ∉ D := by
        refine Classical.byContradiction fun h => hall fun x hx => ?_
        exact Classical.byContradiction fun hx2 => h ⟨x, hx, hx2⟩
      obtain ⟨fuel, rfl⟩ : ∃ f, fuel = f + 1 := ⟨fuel - 1, by omega⟩
      have low : ∀ k, l.getD k false = true → (lmark l D).getD k false = true := by
        intro k hk
        by_cases hks : k < l.size
        · rw [lmark_getD l k hks]; simp [hk]
        · simp [Array.getD_eq_getD_getElem?, Array.getElem?_eq_none (show l.size ≤ k by omega)] at hk
      have readyJ : ∀ x, x ∈ J → x ∉ D → x ∈ Region.ready md ops (lmark l D) := by
        intro x hx hxD
        have h := hj x hx
        refine (ready_iff md ops _ x).2 ⟨by omega, ?_, fun k hk => low k (h.2 k hk)⟩
        rw [lmark_getD l x h.1.1]; simp [hxD, h.1.2]
      refine ⟨fun h0 => ?_, fun i hi => ?_⟩
      · have := readyJ j hj1 hj2
        rw [h0] at this; cases this
      · have hr := (ready_iff md ops _ i).1 hi
        have his : i < l.size := by omega
        have hnl : i ∉ D ∧ l.getD i true = false := by
          have := hr.2.1
          rw [lmark_getD l i his] at this
          simpa using this
        have hiJ : i ∈ J := by
          refine Classical.byContradiction fun hiJ => ?_
          have h := hw i hr.1
          simp only [waitsFor, Bool.or_eq_true, hnl.2, List.all_eq_true, List.any_eq_true, Bool.and_eq_true, Bool.not_eq_true'] at h
          rcases h with ((h | h) | h) | ⟨k, hk, h1, h2⟩
          · cases h
          · exact hiJ (by simpa using h)
          · have hjd := hr.2.2 j (by simpa using h j hj1)
            have hjs := (hj j hj1).1.1
            have hf1 : l.getD j false = false := by
              have := (hj j hj1).1.2
              rw [show l.getD j false = l.getD j true by simp [Array.getD, hjs]]; exact this
            rw [lmark_getD l j hjs, hf1] at hjd
            simp [hj2] at hjd
          · have hkd := hr.2.2 k hk
            by_cases hks : k < l.size
            · rw [lmark_getD l k hks, h2] at hkd
              have : k ∈ D := by simpa using hkd
              have := hD k this
              simp [this] at h1
            · rw [lmark_out l k hks] at hkd; cases hkd
        refine step D i w hiJ hnl.1 hD hI _ fun w' hI' => ?_
        refine ih fuel (i :: D) w' ?_ (by omega) (fun x hx => ?_) hI'
        · have hmem : i ∈ J.filter (fun j => !D.contains j) := List.mem_filter.2 ⟨hiJ, by simp [hnl.1]⟩
          have hsub : (J.filter (fun j => !(i :: D).contains j)) = (J.filter (fun j => !D.contains j)).filter (· != i) := by
            rw [List.filter_filter]
            congr 1
            funext x
            by_cases hx : x = i <;> simp [hx]
          have hnd : (J.filter (fun j => !D.contains j)).Nodup := hJ.filter _
          rw [hsub, ← hnd.erase_eq_filter, List.length_erase_of_mem hmem]
          omega
        · rcases List.mem_cons.1 hx with rfl | hx
          · exact hiJ
          · exact hD x hx
end Go.Proofs.YtccblleobcidfaaGreat.Eh
end
/- A map that the call makes out of a literal: its entries may come in any order; a look-up finds the same. -/
section
namespace Go.Proofs.YtccblleobcidfaaGreat.Mp
open Go.RowKit Go.Proofs.YtccblleobcidfaaGreat.Kt Go.Proofs.YtccblleobcidfaaGreat.Eh Go.Proofs.YtccblleobcidfaaGreat.Es
set_option linter.unusedVariables false
set_option linter.unusedSimpArgs false

def MapAt (w : World) (b : Nat) (l : List (Value × Value)) : Prop := ∃ es clk, w.heap[b]? = some (.map es clk) ∧ es.toList.map (fun e => (e.key, e.val)) = l
theorem MapAt.new (w : World) : MapAt (w.alloc (.map #[] 0)) w.heap.size [] := ⟨#[], 0, by show (w.heap.push _)[w.heap.size]? = _; simp, rfl⟩
theorem MapAt.lt {w : World} {b : Nat} {l : List (Value × Value)} (h : MapAt w b l) : b < w.heap.size := by
  obtain ⟨es, clk, hb, _⟩ := h
  exact (Array.getElem?_eq_some_iff.1 hb).1
theorem MapAt.drew {w : World} {b : Nat} {l : List (Value × Value)} (h : MapAt w b l) : MapAt w.drew b l := h
theorem MapAt.below {w w1 : World} {b : Nat} {l : List (Value × Value)} (h : MapAt w b l) (hb : Below w.heap.size w w1) : MapAt w1 b l := by
  have := h.lt
  obtain ⟨es, clk, h1, h2⟩ := h
  exact ⟨es, clk, (hb.block b this).trans h1, h2⟩

/-- the first entry whose key is the one that is looked for. -/
def ff (E : Value → Bool) : List MapEntry → Nat → Option (Nat × Value)
  | [], _ => none
  | e :: es, i => if E e.key then some (i, e.val) else ff E es (i + 1)
/-- how the key k is looked for among keys of a kind. -/
def Finds (P : Program) (kt : TypeId) (k : Value) (E : Value → Bool) (ok : Value → Prop) : Prop :=
  ∀ (w : World) (es : List MapEntry), (∀ e ∈ es, ok e.key) → (Instr.findKey kt k es).run P w = .ok (ff E es 0) w
theorem findAsking_run {P : Program} {kt : TypeId} {k : Value} {E : Value → Bool} (w : World) : ∀ (es : List MapEntry) (i : Nat), (∀ e ∈ es, (Op.equal kt k e.key).run P w = .ok (E e.key) w) → (Instr.findAsking kt k es i).run P w = .ok (ff E es i) w
  | [], i, _ => by simp [Instr.findAsking, ff]
  | e :: es, i, h => by
    have h0 := h e (by simp)
    have ih := findAsking_run (E := E) w es (i + 1) (fun x hx => h x (by simp [hx]))
    simp only [Instr.findAsking, Sem.run_bind, h0, Result.andThen_ok, ff]
    cases E e.key
    · simpa using ih
    · simp
def intE (a : Int) : Value → Bool
  | .int _ b => a == b
  | _ => false
def pairE (a b : Int) : Value → Bool
  | .agg xs => intE a (xs.getD 0 undef) && intE b (xs.getD 1 undef)
  | _ => false
theorem getMap_run {P : Program} {w : World} {r : Nat} {es : Array MapEntry} {clock : Nat} (hb : w.heap[r]? = some (.map es clock)) : (getObj r).run P w = .ok (.map es clock) w := by
  simp [getObj, Sem.run, hb]
theorem setMap_run {P : Program} {w : World} {r : Nat} {es : Array MapEntry} {clock : Nat} (o : Obj) (hb : w.heap[r]? = some (.map es clock)) : (setObj r o).run P w = .ok () { w with heap := w.heap.setIfInBounds r o } := by
  simp [setObj, Sem.run, hb]
theorem finds_int {P : Program} {kt : TypeId} {q : IntKind} (ht : P.underlying kt = some (.int q)) (a : Int) : Finds P kt (.int q a) (intE a) (fun v => ∃ b, v = .int q b) := by
  intro w es h
  have key : ∀ (es : List MapEntry) (i : Nat), (∀ e ∈ es, ∃ b, e.key = .int q b) → Instr.findNow (.int q) (.int q a) es i = some (ff (intE a) es i) := by
    intro es
    induction es with
    | nil => intro i _; rfl
    | cons e es ih =>
      intro i h
      obtain ⟨b, hb⟩ := h e (by simp)
      have ih' := ih (i + 1) (fun x hx => h x (by simp [hx]))
      simp only [Instr.findNow, hb, Instr.sameNow, if_true, ff, intE]
      by_cases hab : a = b
      · subst hab; simp
      · simp only [show (a == b) = false from by simp [hab]]; exact ih'
  simp only [Instr.findKey, Sem.run_bind, run_underlying ht, Result.andThen_ok, key es 0 h]
  rfl
theorem finds_struct2 {P : Program} {kt : TypeId} {fs : Array Field} (ht : P.underlying kt = some (.struct fs)) (a b : Int)
    (heq : ∀ (d : Nat) (w : World) (c e : Int), (Op.equalIn (d + 2) kt (.agg #[.int .i64 a, .int .i64 b]) (.agg #[.int .i64 c, .int .i64 e])).run P w = .ok (a == c && b == e) w) :
    Finds P kt (.agg #[.int .i64 a, .int .i64 b]) (pairE a b) (fun v => ∃ c e, v = .agg #[.int .i64 c, .int .i64 e]) := by
  intro w es h
  cases es with
  | nil => simp [Instr.findKey, run_underlying ht, Instr.findNow, ff]
  | cons x es =>
    have hn : Instr.findNow (.struct fs) (.agg #[.int .i64 a, .int .i64 b]) (x :: es) 0 = none := by
      obtain ⟨c, e, hx⟩ := h x (by simp)
      simp [Instr.findNow, hx, Instr.sameNow]
    simp only [Instr.findKey, Sem.run_bind, run_underlying ht, Result.andThen_ok, hn]
    refine findAsking_run w _ 0 fun y hy => ?_
    obtain ⟨c, e, hy'⟩ := h y hy
    rw [hy']
    have := heq 9998 w c e
    simpa [Op.equal, Op.maxDepth, pairE, intE] using this

theorem ff_none {E : Value → Bool} : ∀ (es : List MapEntry) (i : Nat), (∀ e ∈ es, E e.key = false) → ff E es i = none
  | [], _, _ => rfl
  | e :: es, i, h => by simp [ff, h e (by simp), ff_none es (i + 1) (fun x hx => h x (by simp [hx]))]

theorem insert_run {P : Program} {t kt et : TypeId} (ht : P.underlying t = some (.map kt et)) {w : World} {b : Nat} {l : List (Value × Value)} (hm : MapAt w b l) {key val : Value} {E : Value → Bool} {ok : Value → Prop}
    (hf : Finds P kt key E ok) (hok : ∀ p ∈ l, ok p.1) (hne : ∀ p ∈ l, E p.1 = false) (hck : (Instr.checkKey false 10000 kt key).run P w = .ok () w) :
    ∃ w', (Instr.mapUpdate t (.map (some b)) key val).run P w = .ok () w' ∧ MapAt w' b (l ++ [(key, val)]) ∧ w.grownBy w' (some b) := by
  obtain ⟨es, clk, hb, rfl⟩ := hm
  have h1 : (Instr.findKey kt key es.toList).run P w = .ok none w := by
    rw [hf w es.toList (fun e he => hok (e.key, e.val) (List.mem_map.2 ⟨e, he, rfl⟩)), ff_none es.toList 0 (fun e he => hne (e.key, e.val) (List.mem_map.2 ⟨e, he, rfl⟩))]
  refine ⟨{ w with heap := w.heap.setIfInBounds b (.map (es.push { key, val := val, born := clk }) (clk + 1)) }, ?_, ⟨es.push { key, val := val, born := clk }, clk + 1, ?_, by simp⟩, ⟨rfl, rfl, rfl, by simp, fun k hk hkb => ?_⟩⟩
  · simp only [Instr.mapUpdate, Sem.run_bind, run_underlying ht, Result.andThen_ok, getMap_run hb, hck, h1, setMap_run _ hb]
  · have hlt := (Array.getElem?_eq_some_iff.1 hb).1
    simp [Array.getElem?_setIfInBounds, hlt]
  · have : b ≠ k := fun e => hkb (by rw [e])
    simp [Array.getElem?_setIfInBounds, this]

theorem lookup_run {P : Program} {t kt et : TypeId} (ht : P.underlying t = some (.map kt et)) {w : World} {b : Nat} {l : List (Value × Value)} (hm : MapAt w b l) {key : Value} {E : Value → Bool} {ok : Value → Prop}
    (hf : Finds P kt key E ok) (hok : ∀ p ∈ l, ok p.1) {z : Value} (hz : (zeroValue et).run P w = .ok z w) (hck : ∀ em, (Instr.checkKey em 10000 kt key).run P w = .ok () w)
    {v : Value} (hv : (∃ p ∈ l, E p.1 = true) → ∀ p ∈ l, E p.1 = true → p.2 = v) (hn : (∀ p ∈ l, E p.1 = false) → v = z) :
    (Instr.lookup t (.map (some b)) key false).run P w = .ok v w := by
  obtain ⟨es, clk, hb, rfl⟩ := hm
  have h1 := hf w es.toList (fun e he => hok (e.key, e.val) (List.mem_map.2 ⟨e, he, rfl⟩))
  have gen : ∀ (xs : List MapEntry) (i : Nat), (∃ e ∈ xs, E e.key = true) → ∃ j u, ff E xs i = some (j, u) ∧ ∃ e ∈ xs, E e.key = true ∧ e.val = u := by
    intro xs
    induction xs with
    | nil => rintro i ⟨e, he, _⟩; cases he
    | cons e xs ih =>
      rintro i ⟨e', he', hE⟩
      simp only [ff]
      cases hc : E e.key
      · rcases List.mem_cons.1 he' with rfl | he'
        · rw [hc] at hE; cases hE
        · obtain ⟨j, u, h2, e2, h3, h4⟩ := ih (i + 1) ⟨e', he', hE⟩
          exact ⟨j, u, by simpa using h2, e2, by simp [h3], h4⟩
      · exact ⟨i, e.val, by simp, e, by simp, hc, rfl⟩
  by_cases hex : ∃ e ∈ es.toList, E e.key = true
  · obtain ⟨j, u, h2, e, he, hE, hu⟩ := gen es.toList 0 hex
    have huv : u = v := by
      rw [← hu]
      exact hv ⟨(e.key, e.val), List.mem_map.2 ⟨e, he, rfl⟩, hE⟩ (e.key, e.val) (List.mem_map.2 ⟨e, he, rfl⟩) hE
    rw [h2] at h1
    simp only [Instr.lookup, Sem.run_bind, run_underlying ht, Result.andThen_ok, getMap_run hb]
    simp [hck es.isEmpty, h1, huv]
  · have hall : ∀ e ∈ es.toList, E e.key = false := by
      intro e he
      cases h : E e.key
      · rfl
      · exact absurd ⟨e, he, h⟩ hex
    have hz' := hn (fun p hp => by obtain ⟨e, he, rfl⟩ := List.mem_map.1 hp; exact hall e he)
    rw [ff_none es.toList 0 hall] at h1
    simp only [Instr.lookup, Sem.run_bind, run_underlying ht, Result.andThen_ok, getMap_run hb]
    simp [hck es.isEmpty, h1, hz, hz']

section
variable {P : Program} {ops : Array Oper} {Q : Exit → Act → World → Prop} {md : Region.Mode}
/-- an operation that touches no memory is done first. -/
theorem take1 (i : Nat) {N : Option Tmp} {oi : Oper} (v : Value) {fuel : Nat} {l : Array Bool} (l' : Array Bool) {a a' : Act} {w : World} (hi : ops[i]? = some oi) (hN : oi.dst = N)
    (hc : (Region.noSelect ops && Region.free md ops l i && (Region.ready md ops l).contains i && (l.setIfInBounds i true == l')) = true)
    (hQ : ∀ c a w, Q (.panic c) (a.put oi.dst v) w → Q (.panic c) a w) (hy : Yields P ops oi v a) (ha : a.put N v = a')
    (h : wpAny P md ops Q fuel l' a' w) : wpAny P md ops Q (fuel + 1) l a w := by
  subst ha
  subst hN
  simp only [Bool.and_eq_true, beq_iff_eq] at hc
  obtain ⟨⟨⟨h1, h2⟩, h3⟩, h6⟩ := hc
  subst h6
  exact wpAny_take hi h1 h2 h3 hQ hy h
/-- a move, an assignment. -/
theorem take_mv (i : Nat) (N : Tmp) (x : Operand) (v : Value) {fuel : Nat} {l : Array Bool} (l' : Array Bool) {a : Act} {w : World}
    (hi : (ops[i]?).map (fun o => (o.dst, o.guard)) = some (some N, none)) (hop : (ops[i]?).map (·.op) = some (Op.move x) ∨ (ops[i]?).map (·.op) = some (Op.assign x)) (hx : a.eval x = v)
    (hc : (Region.noSelect ops && Region.free md ops l i && (Region.ready md ops l).contains i && (l.setIfInBounds i true == l')) = true)
    (hQ : ∀ c a w, Q (.panic c) (a.put (some N) v) w → Q (.panic c) a w)
    (h : wpAny P md ops Q fuel l' (a.put (some N) v) w) : wpAny P md ops Q (fuel + 1) l a w := by
  cases ho : ops[i]? with
  | none => rw [ho] at hi; cases hi
  | some o =>
    rw [ho] at hi hop
    simp only [Option.map_some, Option.some.injEq, Prod.mk.injEq] at hi hop
    obtain ⟨h1, h3⟩ := hi
    refine take1 i v l' ho h1 hc (by rw [h1]; exact hQ) (Or.inl ⟨by simp [Region.wanted, h3], fun w' => ?_⟩) rfl h
    rcases hop with h2 | h2
    all_goals
      unfold execOp
      rw [h2, ← hx]
      rfl
/-- only one may come: it comes. -/
theorem evt1 (i : Nat) {fuel : Nat} {l : Array Bool} {a : Act} {w : World} (hr : Region.ready md ops l = [i])
    (h : wpOp P ops Q i (wpAny P md ops Q fuel (l.setIfInBounds i true)) a w) : wpAny P md ops Q (fuel + 1) l a w :=
  wpAny_all hr (by simp) (fun j hj => by obtain rfl := List.mem_singleton.1 hj; exact h)
theorem op_val {i : Nat} {oi : Oper} {a : Act} {w w' : World} {K : Act → World → Prop} {N : Option Tmp} (v : Value) (hi : ops[i]? = some oi) (hN : oi.dst = N) (hw : Region.wanted oi (yielded ops a.tmps) = true)
    (hr : (execOp a.eval oi).run P w = .ok (.value v) w') (h : K (a.put N v) w') : wpOp P ops Q i K a w := by
  subst hN
  unfold wpOp
  rw [hi]
  simp only [hw, if_true]
  refine Or.inl ?_
  unfold Oper.wp
  rw [hr]
  exact h
theorem op_skip {i : Nat} {oi : Oper} {a : Act} {w w' : World} {K : Act → World → Prop} (hi : ops[i]? = some oi) (hN : oi.dst = none) (hw : Region.wanted oi (yielded ops a.tmps) = true)
    (hr : (execOp a.eval oi).run P w = .ok .skip w') (h : K a w') : wpOp P ops Q i K a w := by
  unfold wpOp
  rw [hi]
  simp only [hw, if_true]
  refine Or.inl ?_
  unfold Oper.wp
  rw [hr]
  show K (a.put oi.dst undef) w'
  rw [hN]
  exact h
/-- an entry of a map's literal. -/
theorem op_insert {i : Nat} {a : Act} {w w' : World} {K : Act → World → Prop} (t : TypeId) (m k v : Operand) {vm vk vv : Value} (hi : (ops[i]?).map (fun o => (o.dst, o.op, o.guard)) = some (none, Op.insert t m k v, none))
    (hm : a.eval m = vm) (hk : a.eval k = vk) (hv : a.eval v = vv) (hr : (Instr.mapUpdate t vm vk vv).run P w = .ok () w') (h : K a w') : wpOp P ops Q i K a w := by
  cases ho : ops[i]? with
  | none => rw [ho] at hi; cases hi
  | some o =>
    rw [ho] at hi
    simp only [Option.map_some, Option.some.injEq, Prod.mk.injEq] at hi
    obtain ⟨h1, h2, h3⟩ := hi
    refine op_skip ho h1 (by simp [Region.wanted, h3]) ?_ h
    have : execOp a.eval o = (do Instr.mapUpdate t (a.eval m) (a.eval k) (a.eval v); pure Next.skip : Sem Next) := by
      unfold execOp; rw [h2]
    rw [this, hm, hk, hv, Sem.run_bind, hr]
    rfl
end
end Go.Proofs.YtccblleobcidfaaGreat.Mp
end
/- Layer 15: what may be asked when: what the program's and the references' functions answer; the laws' walks. -/
section
namespace Go.Proofs.YtccblleobcidfaaGreat.Tb
open Go.RowKit Go.Proofs.YtccblleobcidfaaGreat.Kt Go.Proofs.YtccblleobcidfaaGreat.Eh Go.Proofs.YtccblleobcidfaaGreat.Es Go.Proofs.YtccblleobcidfaaGreat.Mp Go.Proofs.YtccblleobcidfaaGreat.Id
set_option linter.unusedVariables false
set_option linter.unusedSimpArgs false

set_option maxHeartbeats 400000 in
theorem code_c (x : Int) (w : World) : Calls Tryz.prog 185 #[.int .i64 x] w fun e w' => e = .returned (.bool (rngB x 0 6)) ∧ w = w' := by
  go_enter Tryz.func185, Tryz.ntmps185
  go_wp2
  all_goals (go_ret; exact ⟨by simp [rngB]; omega, rfl⟩)
theorem eqAsked (d : Nat) (w : World) (x0 x1 y0 y1 : Int) : (Op.equalIn (d + 2) 230 (.agg #[.int .i64 x0, .int .i64 x1]) (.agg #[.int .i64 y0, .int .i64 y1])).run Tryz.prog w = .ok (x0 == y0 && x1 == y1) w :=
  eqA_of Tryz.underlying230 (by kernel_rfl) (eqf_cons (by rfl) (by go_simp; rfl) (by go_simp; rfl) (by go_simp) (eqf_last (by rfl) (by go_simp; rfl) (by go_simp; rfl) (by go_simp)))
theorem asked_key (em : Bool) (a b : Int) (w : World) : (Instr.checkKey em 10000 230 (.agg #[.int .i64 a, .int .i64 b])).run Tryz.prog w = .ok () w := by
  cases em <;> kernel_rfl
theorem bool_zero (w : World) : (zeroValue 4).run Tryz.prog w = .ok (.bool false) w := by kernel_rfl
/-- the table's rows, by the number of the operation that lays each down. -/
def rowOf : Nat → Int × Int
  | 2 => (0, 1) | 4 => (3, 1) | 6 => (0, 2) | 8 => (6, 2) | 10 => (7, 4) | 12 => (0, 6) | 14 => (3, 6) | _ => (6, 6)
def pairOf (i : Nat) : Value × Value := (.agg #[.int .i64 (rowOf i).1, .int .i64 (rowOf i).2], .bool true)
theorem rows_ne : ∀ i ∈ [2, 4, 6, 8, 10, 12, 14, 16], ∀ j ∈ [2, 4, 6, 8, 10, 12, 14, 16], j ≠ i → pairE (rowOf i).1 (rowOf i).2 (pairOf j).1 = false := by decide
def tabB (s c : Int) : Bool := [2, 4, 6, 8, 10, 12, 14, 16].any fun i => s == (rowOf i).1 && c == (rowOf i).2
def allowB (s c : Int) : Bool := (rngB s 0 7 && rngB c 0 6) && ((c == 3 || c == 5) || tabB s c)
def allowE (s c : Int) : Int := bif rngB s 0 7 && rngB c 0 6 then 0 else 1500
set_option maxHeartbeats 3200000 in
set_option maxRecDepth 100000 in
theorem allowed_c (s c : Int) (w : World) : Calls Tryz.prog 133 #[.int .i64 s, .int .i64 c] w fun e w' => e = .returned (.tuple #[.bool (allowB s c), .int .i64 (allowE s c)]) ∧ Below w.heap.size w w' := by
  by_cases h : (rngB s 0 7 && rngB c 0 6) = true
  · have h1 : rngB s 0 7 = true := by simp at h; exact h.1
    have h2 : rngB c 0 6 = true := by simp at h; exact h.2
    by_cases h3 : c = 3 ∨ c = 5
    · have e1 : allowB s c = true := by rcases h3 with rfl | rfl <;> simp [allowB, h1, h2]
      have e2 : allowE s c = 0 := by simp [allowE, h1, h2]
      rcases h3 with rfl | rfl
      all_goals
        go_enter Tryz.func133, Tryz.ntmps133
        go_wp2_with (first | (go_at_call 172; refine (An.state_c _ _).mono ?_; rintro e w' ⟨rfl, rfl⟩) | (go_at_call 185; refine (code_c _ _).mono ?_; rintro e w' ⟨rfl, rfl⟩) | fail)
        go_ret2
        exact ⟨by simp [e1, e2], Below.refl _ _⟩
    · have g1 : (c == 3) = false := by rw [beq_eq_false_iff_ne]; omega
      have g2 : (c == 5) = false := by rw [beq_eq_false_iff_ne]; omega
      have e1 : allowB s c = tabB s c := by simp [allowB, h1, h2, g1, g2]
      have e2 : allowE s c = 0 := by simp [allowE, h1, h2]
      have E1 := Lib.hid e1
      have E2 := Lib.hid e2
      clear e1 e2 h
      go_enter Tryz.func133, Tryz.ntmps133
      go_wp2_with (first | (go_at_call 172; refine (An.state_c _ _).mono ?_; rintro e w' ⟨rfl, rfl⟩) | (go_at_call 185; refine (code_c _ _).mono ?_; rintro e w' ⟨rfl, rfl⟩) | fail)
      refine wp_region_any (by kernel_rfl) ?_
      refine take1 1 (.agg #[.int .i64 0, .int .i64 1]) #[false, true, false, false, false, false, false, false, false, false, false, false, false, false, false, false, false, false, false] rfl rfl (by kernel_rfl) (fun _ _ _ h => h) (Or.inl ⟨by rfl, fun w' => by go_simp⟩) rfl ?_
      refine take1 3 (.agg #[.int .i64 3, .int .i64 1]) #[false, true, false, true, false, false, false, false, false, false, false, false, false, false, false, false, false, false, false] rfl rfl (by kernel_rfl) (fun _ _ _ h => h) (Or.inl ⟨by rfl, fun w' => by go_simp⟩) rfl ?_
      refine take1 5 (.agg #[.int .i64 0, .int .i64 2]) #[false, true, false, true, false, true, false, false, false, false, false, false, false, false, false, false, false, false, false] rfl rfl (by kernel_rfl) (fun _ _ _ h => h) (Or.inl ⟨by rfl, fun w' => by go_simp⟩) rfl ?_
      refine take1 7 (.agg #[.int .i64 6, .int .i64 2]) #[false, true, false, true, false, true, false, true, false, false, false, false, false, false, false, false, false, false, false] rfl rfl (by kernel_rfl) (fun _ _ _ h => h) (Or.inl ⟨by rfl, fun w' => by go_simp⟩) rfl ?_
      refine take1 9 (.agg #[.int .i64 7, .int .i64 4]) #[false, true, false, true, false, true, false, true, false, true, false, false, false, false, false, false, false, false, false] rfl rfl (by kernel_rfl) (fun _ _ _ h => h) (Or.inl ⟨by rfl, fun w' => by go_simp⟩) rfl ?_
      refine take1 11 (.agg #[.int .i64 0, .int .i64 6]) #[false, true, false, true, false, true, false, true, false, true, false, true, false, false, false, false, false, false, false] rfl rfl (by kernel_rfl) (fun _ _ _ h => h) (Or.inl ⟨by rfl, fun w' => by go_simp⟩) rfl ?_
      refine take1 13 (.agg #[.int .i64 3, .int .i64 6]) #[false, true, false, true, false, true, false, true, false, true, false, true, false, true, false, false, false, false, false] rfl rfl (by kernel_rfl) (fun _ _ _ h => h) (Or.inl ⟨by rfl, fun w' => by go_simp⟩) rfl ?_
      refine take1 15 (.agg #[.int .i64 6, .int .i64 6]) #[false, true, false, true, false, true, false, true, false, true, false, true, false, true, false, true, false, false, false] rfl rfl (by kernel_rfl) (fun _ _ _ h => h) (Or.inl ⟨by rfl, fun w' => by go_simp⟩) rfl ?_
      simp only [Act.put, List.setIfInBounds_toArray, List.set_cons_zero, List.set_cons_succ]
      refine evt1 0 (by kernel_rfl) ?_
      refine op_val (w' := w.drew.alloc (.map #[] 0)) (.map (some w.heap.size)) rfl rfl rfl rfl ?_
      simp only [Act.put, List.setIfInBounds_toArray, List.set_cons_zero, List.set_cons_succ]
      have M0 := MapAt.new w.drew
      have B0 := bl_alloc (bl_drew (Below.refl w.heap.size w)) (.map #[] 0)
      generalize w.drew.alloc (.map #[] 0) = w1 at *
      show wpAny _ _ _ _ 10 (lmark #[true, true, false, true, false, true, false, true, false, true, false, true, false, true, false, true, false, false, false] []) _ _
      refine wpAny_each [2, 4, 6, 8, 10, 12, 14, 16] (by decide) (fun D W => MapAt W w.heap.size (D.reverse.map pairOf) ∧ w1.grownBy W (some w.heap.size)) (by kernel_rfl) 2 ?_ ?_ 8 10 [] w1 (by decide) (by decide) (by simp) ⟨M0, ⟨rfl, rfl, rfl, Nat.le_refl _, fun _ _ _ => rfl⟩⟩
      · rintro D i W hi hD hsub ⟨hm, hg⟩ K hK
        obtain ⟨w', hr, hm', hg'⟩ := insert_run (t := 231) (key := (pairOf i).1) (val := (pairOf i).2) Tryz.underlying231 hm (finds_struct2 Tryz.underlying230 (rowOf i).1 (rowOf i).2 (fun d w c e => eqAsked d w _ _ c e))
          (fun p hp => by obtain ⟨j, _, rfl⟩ := List.mem_map.1 hp; exact ⟨_, _, rfl⟩)
          (fun p hp => by obtain ⟨j, hj, rfl⟩ := List.mem_map.1 hp; have hj' := List.mem_reverse.1 hj; exact rows_ne i hi j (hsub j hj') (fun e => hD (e ▸ hj')))
          (asked_key false _ _ _)
        have hI : MapAt w' w.heap.size ((i :: D).reverse.map pairOf) ∧ w1.grownBy w' (some w.heap.size) := by
          refine ⟨by simpa using hm', ⟨hg'.os.trans hg.os, hg'.tape.trans hg.tape, hg'.output.trans hg.output, Nat.le_trans hg.size hg'.size, fun k hk hkb => (hg'.block k (Nat.lt_of_lt_of_le hk hg.size) hkb).trans (hg.block k hk hkb)⟩⟩
        have hK' := hK w' hI
        clear hI hm' hg' hK hm hg
        simp only [List.mem_cons, List.not_mem_nil, or_false] at hi
        rcases hi with rfl | rfl | rfl | rfl | rfl | rfl | rfl | rfl
        · exact op_insert 231 (.tmp 21) (.tmp 22) (.const (.bool true)) (vm := .map (some w.heap.size)) (vk := (pairOf 2).1) (vv := (pairOf 2).2) (by kernel_rfl) (by kernel_rfl) (by kernel_rfl) (by kernel_rfl) hr hK'
        · exact op_insert 231 (.tmp 21) (.tmp 23) (.const (.bool true)) (vm := .map (some w.heap.size)) (vk := (pairOf 4).1) (vv := (pairOf 4).2) (by kernel_rfl) (by kernel_rfl) (by kernel_rfl) (by kernel_rfl) hr hK'
        · exact op_insert 231 (.tmp 21) (.tmp 24) (.const (.bool true)) (vm := .map (some w.heap.size)) (vk := (pairOf 6).1) (vv := (pairOf 6).2) (by kernel_rfl) (by kernel_rfl) (by kernel_rfl) (by kernel_rfl) hr hK'
        · exact op_insert 231 (.tmp 21) (.tmp 25) (.const (.bool true)) (vm := .map (some w.heap.size)) (vk := (pairOf 8).1) (vv := (pairOf 8).2) (by kernel_rfl) (by kernel_rfl) (by kernel_rfl) (by kernel_rfl) hr hK'
        · exact op_insert 231 (.tmp 21) (.tmp 26) (.const (.bool true)) (vm := .map (some w.heap.size)) (vk := (pairOf 10).1) (vv := (pairOf 10).2) (by kernel_rfl) (by kernel_rfl) (by kernel_rfl) (by kernel_rfl) hr hK'
        · exact op_insert 231 (.tmp 21) (.tmp 27) (.const (.bool true)) (vm := .map (some w.heap.size)) (vk := (pairOf 12).1) (vv := (pairOf 12).2) (by kernel_rfl) (by kernel_rfl) (by kernel_rfl) (by kernel_rfl) hr hK'
        · exact op_insert 231 (.tmp 21) (.tmp 28) (.const (.bool true)) (vm := .map (some w.heap.size)) (vk := (pairOf 14).1) (vv := (pairOf 14).2) (by kernel_rfl) (by kernel_rfl) (by kernel_rfl) (by kernel_rfl) hr hK'
        · exact op_insert 231 (.tmp 21) (.tmp 29) (.const (.bool true)) (vm := .map (some w.heap.size)) (vk := (pairOf 16).1) (vv := (pairOf 16).2) (by kernel_rfl) (by kernel_rfl) (by kernel_rfl) (by kernel_rfl) hr hK'
      · rintro fuel hf D W hiff ⟨hm, hg⟩
        obtain ⟨f, rfl⟩ : ∃ f, fuel = f + 1 + 1 := ⟨fuel - 2, by omega⟩
        show wpAny _ _ _ _ _ #[true, true, true, true, true, true, true, true, true, true, true, true, true, true, true, true, true, false, false] _ _
        refine take_mv 17 30 (.tmp 21) (.map (some w.heap.size)) #[true, true, true, true, true, true, true, true, true, true, true, true, true, true, true, true, true, true, false] (by kernel_rfl) (Or.inl (by kernel_rfl)) (by kernel_rfl) (by kernel_rfl) (fun _ _ _ h => h) ?_
        refine take_mv 18 6 (.tmp 30) (.map (some w.heap.size)) #[true, true, true, true, true, true, true, true, true, true, true, true, true, true, true, true, true, true, true] (by kernel_rfl) (Or.inr (by kernel_rfl)) (by kernel_rfl) (by kernel_rfl) (fun _ _ _ h => h) ?_
        simp only [Act.put, List.setIfInBounds_toArray, List.set_cons_zero, List.set_cons_succ]
        refine wpAny_done (by kernel_rfl) ?_ _
        have B1 : Below w.heap.size w W := B0.grown hg B0.size (fun k hk => by cases hk; exact Nat.le_refl _)
        have hlk : (Instr.lookup 231 (.map (some w.heap.size)) (.agg #[.int .i64 s, .int .i64 c]) false).run Tryz.prog W = .ok (.bool (tabB s c)) W := by
          refine lookup_run Tryz.underlying231 hm (finds_struct2 Tryz.underlying230 s c (fun d w x y => eqAsked d w _ _ x y)) (fun p hp => by obtain ⟨j, _, rfl⟩ := List.mem_map.1 hp; exact ⟨_, _, rfl⟩) (bool_zero W) (fun em => asked_key em _ _ _) ?_ ?_
          · rintro ⟨p, hp, hE⟩ q hq _
            obtain ⟨j, hj, rfl⟩ := List.mem_map.1 hp
            obtain ⟨k, _, rfl⟩ := List.mem_map.1 hq
            have hj' := (hiff j).1 (List.mem_reverse.1 hj)
            show Value.bool true = _
            congr 1
            symm
            exact List.any_eq_true.2 ⟨j, hj', by simpa [pairE, pairOf, intE] using hE⟩
          · intro hall
            congr 1
            rw [tabB, List.any_eq_false]
            intro j hj
            have := hall (pairOf j) (List.mem_map.2 ⟨j, List.mem_reverse.2 ((hiff j).2 hj), rfl⟩)
            simpa [pairE, pairOf, intE] using this
        clear hm hg M0 B0
        go_wp2
        go_ret2
        exact ⟨by rw [E1.out, E2.out]; simp, B1⟩
  · have h' : (rngB s 0 7 && rngB c 0 6) = false := by simpa using h
    have e1 : allowB s c = false := by simp [allowB, h']
    have e2 : allowE s c = 1500 := by simp [allowE, h']
    clear h
    cases h1 : rngB s 0 7
    · go_enter Tryz.func133, Tryz.ntmps133
      go_wp2_with (first | (go_at_call 172; refine (An.state_c _ _).mono ?_; rintro e w' ⟨rfl, rfl⟩) | (go_at_call 185; refine (code_c _ _).mono ?_; rintro e w' ⟨rfl, rfl⟩) | fail)
      go_ret2
      exact ⟨by simp [e1, e2], Below.refl _ _⟩
    · have h2 : rngB c 0 6 = false := by simpa [h1] using h'
      go_enter Tryz.func133, Tryz.ntmps133
      go_wp2_with (first | (go_at_call 172; refine (An.state_c _ _).mono ?_; rintro e w' ⟨rfl, rfl⟩) | (go_at_call 185; refine (code_c _ _).mono ?_; rintro e w' ⟨rfl, rfl⟩) | fail)
      go_ret2
      exact ⟨by simp [e1, e2], Below.refl _ _⟩

end Go.Proofs.YtccblleobcidfaaGreat.Tb
end
