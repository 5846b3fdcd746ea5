/- Layer 14: statuses: what the program's and the references' functions answer. -/
import Derived.Test.YtalgfekpcklijaaGreatGb
namespace Go.Proofs.YtalgfekpcklijaaGreat.An
open Go.RowKit Go.Proofs.YtalgfekpcklijaaGreat.Kt Go.Proofs.YtalgfekpcklijaaGreat.Lw Go.Proofs.YtalgfekpcklijaaGreat.St Go.Proofs.YtalgfekpcklijaaGreat.Nm
set_option linter.unusedVariables false
set_option linter.unusedSimpArgs false


set_option maxHeartbeats 400000 in
theorem state_c (x : Int) (w : World) : Calls Tryz.prog 97 #[.int .i64 x] w fun e w' => e = .returned (.bool (rngB x 0 7)) ∧ w = w' := by
  go_enter Tryz.func97, Tryz.ntmps97
  go_wp2
  all_goals (go_ret; exact ⟨by simp [rngB]; omega, rfl⟩)
set_option maxHeartbeats 400000 in
theorem status_c (x : Int) (w : World) : Calls Tryz.prog 98 #[.int .i64 x] w fun e w' => e = .returned (.bool (rngB x 0 6)) ∧ w = w' := by
  go_enter Tryz.func98, Tryz.ntmps98
  go_wp2
  all_goals (go_ret; exact ⟨by simp [rngB]; omega, rfl⟩)
def ansMay (st tk sta : Int) : Bool := rngB st 0 6 && (rngB sta 0 7 && rngB tk 0 255)
set_option maxHeartbeats 400000 in
theorem ansMay_c (st tk sta : Int) (w : World) : Calls Tryz.prog 184 #[.agg #[.int .i64 st, .int .i64 tk, .int .i64 sta]] w fun e w' => e = .returned (.bool (ansMay st tk sta)) ∧ Below w.heap.size w w' := by
  go_enter Tryz.func184, Tryz.ntmps184
  go_wp2_with (first | (go_at_call 97; refine (state_c _ _).mono ?_; rintro e w' ⟨rfl, rfl⟩) | (go_at_call 98; refine (status_c _ _).mono ?_; rintro e w' ⟨rfl, rfl⟩))
  all_goals go_ret
  all_goals (refine ⟨?_, bl_alloc (Below.refl _ _) _⟩; have h255 : rngB tk 0 255 = (decide (0 ≤ tk) && decide (tk ≤ 255)) := rfl; first | (simp [ansMay, h255, *]; done) | (simp [ansMay, h255, *]; omega))
def putB (st tk sta : Int) : ByteArray := bif ansMay st tk sta then lowB st 1 ++ lowB tk 3 ++ lowB sta 2 else ByteArray.empty
def putE (st tk sta : Int) : Int := bif ansMay st tk sta then 0 else 1400
set_option maxHeartbeats 800000 in
theorem put_c (st tk sta : Int) (w : World) : Calls Tryz.prog 148 #[.agg #[.int .i64 st, .int .i64 tk, .int .i64 sta]] w fun e w' => e = .returned (.tuple #[.string (putB st tk sta), .int .i64 (putE st tk sta)]) ∧ Below w.heap.size w w' := by
  cases hm : ansMay st tk sta
  · go_enter Tryz.func148, Tryz.ntmps148
    go_wp2_with (go_at_call 184; refine (ansMay_c _ _ _ _).mono ?_; rintro e w' ⟨rfl, hb⟩; obtain ⟨hc, hf, hl, hn1, hn2⟩ := keep hb)
    go_ret2
    exact ⟨by simp [putB, putE, hm]; rfl, (by repeat (with_reducible first | exact Below.refl _ _ | assumption | (refine bl_set ?_ (by omega)) | apply bl_alloc | apply bl_drewN | apply bl_drew | (refine bl_step ?_ (by assumption)) | fail))⟩
  · go_enter Tryz.func148, Tryz.ntmps148
    go_wp2_with (go_at_call 184; refine (ansMay_c _ _ _ _).mono ?_; rintro e w' ⟨rfl, hb⟩; obtain ⟨hc, hf, hl, hn1, hn2⟩ := keep hb)
    have HC : w'.cell? ⟨w.heap.size, 0, none⟩ = some (.int .i64 st) ∧ w'.cell? ⟨w.heap.size, 1, none⟩ = some (.int .i64 tk) ∧ w'.cell? ⟨w.heap.size, 2, none⟩ = some (.int .i64 sta) := ⟨cb hb (by simp), cb hb (by simp), cb hb (by simp)⟩
    have HB : Below w.heap.size w w' := (by repeat (with_reducible first | exact Below.refl _ _ | assumption | (refine bl_set ?_ (by omega)) | apply bl_alloc | apply bl_drewN | apply bl_drew | (refine bl_step ?_ (by assumption)) | fail))
    have z1 := lowB_size st 1
    have z2 := lowB_size tk 3
    have z3 := lowB_size sta 2
    clear hc hf hl hn1 hn2 hb
    go_region_held3 (fun W => W.cell? ⟨w.heap.size, 0, none⟩ = some (.int .i64 st) ∧ W.cell? ⟨w.heap.size, 1, none⟩ = some (.int .i64 tk) ∧ W.cell? ⟨w.heap.size, 2, none⟩ = some (.int .i64 sta) ∧ Below w'.heap.size w' W) (first | (refine k3 HC ?_; (repeat (with_reducible first | exact Below.refl _ _ | (apply kz3; assumption) | apply bl_alloc | apply bl_drew | apply bl_drewN | (refine bl_setn ?_ (by apply kz3; assumption)) | (refine bl_step ?_ (by assumption)) | fail)); done) | fail) (first | (go_at_call 143; refine (low_c _ _ _ (by omega) (by omega)).mono ?_; rintro e wq ⟨rfl, hb⟩) | fail)
    go_wp2
    go_ret2
    exact ⟨by simp [putB, putE, hm], bl_step HB (kz3 (by assumption))⟩

def gotB (s : ByteArray) : Bool := decide (s.size = 6) && ansMay (byt s 0) (numB (s.extract 1 4)) (numB (s.extract 4 6))
def gotV (s : ByteArray) : Array Value := bif gotB s then #[.int .i64 (byt s 0), .int .i64 (numB (s.extract 1 4)), .int .i64 (numB (s.extract 4 6))] else #[.int .i64 0, .int .i64 0, .int .i64 0]
set_option maxHeartbeats 800000 in
theorem get_c (s : ByteArray) (w : World) : Calls Tryz.prog 190 #[.string s] w fun e w' => e = .returned (.tuple #[.agg (gotV s), .int .i64 (bif gotB s then 0 else 1400)]) ∧ Below w.heap.size w w' := by
  by_cases hs : s.size = 6
  · have e1 : (s.extract 1 4).size ≤ 4 := by simp; omega
    have e2 : (s.extract 4 6).size ≤ 4 := by simp; omega
    have e0 := byt_at s 0 (by omega)
    have e3 := byt_wrap s 0
    go_enter Tryz.func190, Tryz.ntmps190
    go_wp2
    have K0 := Blk.new w #[.int .i64 0, .int .i64 0, .int .i64 0] 53
    have B0 := bl_alloc (Below.refl w.heap.size w) (.cells #[.int .i64 0, .int .i64 0, .int .i64 0] 53)
    generalize w.alloc (.cells #[.int .i64 0, .int .i64 0, .int .i64 0] 53) = w1 at *
    go_cut [4] (fun v4 wc => ∃ g : Nat, v4 = .pointer (some ⟨g, 0, none⟩) ∧ w.heap.size < g ∧ Blk wc g #[.int .i64 (byt s 0), .int .i64 (numB (s.extract 1 4)), .int .i64 (numB (s.extract 4 6))] 53 ∧ Blk wc w.heap.size #[.int .i64 0, .int .i64 0, .int .i64 0] 53 ∧ Below w.heap.size w wc)
    case first =>
      go_region_held3 (fun W => Below w1.heap.size w1 W) (first | ((repeat (with_reducible first | exact Below.refl _ _ | assumption | apply bl_alloc | apply bl_drew | apply bl_drewN | (refine bl_setn ?_ (by assumption)) | (refine bl_step ?_ (by assumption)) | fail)); done) | fail) (first | (go_at_call 102; refine (num_c _ _ (by assumption)).mono ?_; rintro e w' ⟨rfl, rfl⟩) | fail)
      all_goals (go_wp2_with fail; go_meet; exact ⟨_, rfl, K0.lt, (Blk.new _ _ _).drew, (K0.alloc _).drew, bl_drew (bl_alloc B0 _)⟩)
    case rest =>
      obtain ⟨g, rfl, hg, K1, K2, B2⟩ := hcut
      have HK1 := Lib.hid K1
      have HK2 := Lib.hid K2
      have HB2 := Lib.hid B2
      have c0 := K1.cell 0
      have c1 := K1.cell 1
      have c2 := K1.cell 2
      clear K1 K2 B2 K0 B0
      go_wp2_with fail
      refine (ansMay_c _ _ _ _).mono ?_
      rintro e w2 ⟨rfl, hb⟩
      have K3 := HK1.out.below hb
      have K4 := HK2.out.below hb
      have B3 := Lib.hid (bl_step HB2.out hb)
      clear c0 c1 c2 hb
      have c0 := K3.cell 0
      have c1 := K3.cell 1
      have c2 := K3.cell 2
      have d0 : w2.cell? ⟨w.heap.size, 0, none⟩ = some (.int .i64 0) := K4.cell 0
      have d1 : w2.cell? ⟨w.heap.size, 1, none⟩ = some (.int .i64 0) := K4.cell 1
      have d2 : w2.cell? ⟨w.heap.size, 2, none⟩ = some (.int .i64 0) := K4.cell 2
      have f0 := K4.frozen 0
      have f1 := K4.frozen 1
      have f2 := K4.frozen 2
      have hne : w.heap.size ≠ g := by omega
      have hne2 : g ≠ w.heap.size := by omega
      clear K3 K4
      cases hm : ansMay (byt s 0) (numB (s.extract 1 4)) (numB (s.extract 4 6))
      · have hg : gotB s = false := by simp [gotB, hm]
        go_wp2
        have B4 := B3.out
        exact bodyPost_ret (v := .tuple #[.agg #[.int .i64 0, .int .i64 0, .int .i64 0], .int .i64 1400]) (by simp [results, Tryz.results190, go_sem, d0, d1, d2]) rfl ⟨by simp [gotV, hg], (by repeat (with_reducible first | exact Below.refl _ _ | assumption | (refine bl_set ?_ (by omega)) | apply bl_alloc | apply bl_drewN | apply bl_drew | (refine bl_step ?_ (by assumption)) | fail))⟩
      · have hg : gotB s = true := by simp [gotB, hm, hs]
        go_wp2
        have B4 := B3.out
        exact bodyPost_ret (v := .tuple #[.agg #[.int .i64 (byt s 0), .int .i64 (numB (s.extract 1 4)), .int .i64 (numB (s.extract 4 6))], .int .i64 0]) (by simp [results, Tryz.results190, go_sem, d0, d1, d2]) rfl ⟨by simp [gotV, hg], (by repeat (with_reducible first | exact Below.refl _ _ | assumption | (refine bl_set ?_ (by omega)) | apply bl_alloc | apply bl_drewN | apply bl_drew | (refine bl_step ?_ (by assumption)) | fail))⟩
  · have h : ((s.size : Int) != 6) = true := by rw [bne_iff_ne]; omega
    have hg : gotB s = false := by simp [gotB, hs]
    go_enter Tryz.func190, Tryz.ntmps190
    go_wp2
    exact bodyPost_ret (v := .tuple #[.agg #[.int .i64 0, .int .i64 0, .int .i64 0], .int .i64 1400]) (by simp [results, Tryz.results190, go_sem]) rfl ⟨by simp [gotV, hg], (by repeat (with_reducible first | exact Below.refl _ _ | assumption | (refine bl_set ?_ (by omega)) | apply bl_alloc | apply bl_drewN | apply bl_drew | (refine bl_step ?_ (by assumption)) | fail))⟩

set_option maxHeartbeats 400000 in
theorem rstate_c (x : Int) (w : World) : Calls Tryz.prog 61 #[.int .i64 x] w fun e w' => e = .returned (.bool (rngB x 0 7)) ∧ w = w' := by
  go_enter Tryz.func61, Tryz.ntmps61
  go_wp2_with (go_at_call 62; refine (upTo_c _ _ _ _).mono ?_; rintro e w' ⟨rfl, rfl⟩)
  go_ret
  exact ⟨rfl, rfl⟩
set_option maxHeartbeats 400000 in
theorem rstatus_c (x : Int) (w : World) : Calls Tryz.prog 64 #[.int .i64 x] w fun e w' => e = .returned (.bool (rngB x 0 6)) ∧ w = w' := by
  go_enter Tryz.func64, Tryz.ntmps64
  go_wp2_with (go_at_call 62; refine (upTo_c _ _ _ _).mono ?_; rintro e w' ⟨rfl, rfl⟩)
  go_ret
  exact ⟨rfl, rfl⟩
set_option maxHeartbeats 400000 in
theorem ransMay_c (st tk sta : Int) (w : World) : Calls Tryz.prog 69 #[.agg #[.int .i64 st, .int .i64 tk, .int .i64 sta]] w fun e w' => e = .returned (.bool (ansMay st tk sta)) ∧ Below w.heap.size w w' := by
  go_enter Tryz.func69, Tryz.ntmps69
  go_wp2_with (first | (go_at_call 61; refine (rstate_c _ _).mono ?_; rintro e w' ⟨rfl, rfl⟩) | (go_at_call 64; refine (rstatus_c _ _).mono ?_; rintro e w' ⟨rfl, rfl⟩) | (go_at_call 62; refine (upTo_c _ _ _ _).mono ?_; rintro e w' ⟨rfl, rfl⟩) | fail)
  all_goals (go_ret; exact ⟨by simp [ansMay, *], (by repeat (with_reducible first | exact Below.refl _ _ | assumption | (refine bl_set ?_ (by omega)) | apply bl_alloc | apply bl_drewN | apply bl_drew | (refine bl_step ?_ (by assumption)) | fail))⟩)
theorem low_two (x : Int) (h0 : 0 ≤ x) (h1 : x < 256) : lowB x 1 ++ lowB 0 1 = lowB x 2 := by
  apply ext_data
  have : x / 256 % 256 = 0 := by omega
  simp [lowB, lowL, strOfNums, List.range_succ, this]
theorem may_sta {st tk sta : Int} (h : ansMay st tk sta = true) : (0 ≤ st ∧ st ≤ 6) ∧ (0 ≤ sta ∧ sta ≤ 7) ∧ (0 ≤ tk ∧ tk ≤ 255) := by
  simpa [ansMay, rngB_eq] using h
set_option maxHeartbeats 1600000 in
theorem rput_c (st tk sta : Int) (w : World) : Calls Tryz.prog 26 #[.agg #[.int .i64 st, .int .i64 tk, .int .i64 sta]] w fun e w' => e = .returned (.tuple #[.string (putB st tk sta), .int .i64 (putE st tk sta)]) ∧ Below w.heap.size w w' := by
  have HB := Below.refl w.heap.size w
  have K0 := Blk.new w #[.int .i64 st, .int .i64 tk, .int .i64 sta] 53
  cases hm : ansMay st tk sta
  · go_enter Tryz.func26, Tryz.ntmps26
    go_wp2_with (first | (go_at_call 69; refine (ransMay_c _ _ _ _).mono ?_; rintro e w' ⟨rfl, hb⟩; have HB := bl_step (by repeat (with_reducible first | exact HB | apply bl_alloc | apply bl_drew | apply bl_drewN | fail)) hb; have K0 := Blk.below (by repeat (with_reducible first | exact K0 | exact K0 _ | exact K0 _ _ | apply Blk.alloc | apply Blk.drew | apply Blk.drewN | fail)) hb; obtain ⟨_, _, _, _, _, _, _⟩ := Blk.all3 K0) | fail)
    go_ret2
    exact ⟨by simp [putB, putE, hm]; rfl, HB⟩
  · have hb := may_sta hm
    have h2 := Lib.hid (low_two sta hb.2.1.1 (by omega))
    clear hb
    go_enter Tryz.func26, Tryz.ntmps26
    go_wp2_with (first | (go_at_call 69; refine (ransMay_c _ _ _ _).mono ?_; rintro e w' ⟨rfl, hb⟩; have HB := bl_step (by repeat (with_reducible first | exact HB | apply bl_alloc | apply bl_drew | apply bl_drewN | fail)) hb; have K0 := Blk.below (by repeat (with_reducible first | exact K0 | exact K0 _ | exact K0 _ _ | apply Blk.alloc | apply Blk.drew | apply Blk.drewN | fail)) hb; obtain ⟨_, _, _, _, _, _, _⟩ := Blk.all3 K0) | fail)
    have HC : w'.cell? ⟨w.heap.size, 0, none⟩ = some (.int .i64 st) ∧ w'.cell? ⟨w.heap.size, 1, none⟩ = some (.int .i64 tk) ∧ w'.cell? ⟨w.heap.size, 2, none⟩ = some (.int .i64 sta) := ⟨K0.cell 0, K0.cell 1, K0.cell 2⟩
    have z1 := lowB_size st 1
    have z2 := lowB_size tk 3
    have z3 := lowB_size sta 1
    have z4 := lowB_size 0 1
    go_region_held3 (fun W => W.cell? ⟨w.heap.size, 0, none⟩ = some (.int .i64 st) ∧ W.cell? ⟨w.heap.size, 1, none⟩ = some (.int .i64 tk) ∧ W.cell? ⟨w.heap.size, 2, none⟩ = some (.int .i64 sta) ∧ Below w'.heap.size w' W) (first | (refine k3 HC ?_; (repeat (with_reducible first | exact Below.refl _ _ | (apply kz3; assumption) | apply bl_alloc | apply bl_drew | apply bl_drewN | (refine bl_setn ?_ (by apply kz3; assumption)) | (refine bl_step ?_ (by assumption)) | fail)); done) | fail) (first | (go_at_call 56; refine (rlow_c _ _ _ (by omega) (by omega)).mono ?_; rintro e wq ⟨rfl, hb⟩) | fail)
    go_wp2
    go_ret2
    exact ⟨by simp [putB, putE, hm, ← h2.out, ByteArray.append_assoc], bl_step HB (kz3 (by assumption))⟩
end Go.Proofs.YtalgfekpcklijaaGreat.An
