/- Layer 14: statuses: what the program's and the references' functions answer. -/
import Derived.Test.YtnbbbpeelplfoaaLow
namespace Go.Proofs.Ytnbbbpeelplfoaa.An
open Go.RowKit Go.Proofs.Ytnbbbpeelplfoaa.Kt Go.Proofs.Ytnbbbpeelplfoaa.Lw
set_option linter.unusedVariables false
set_option linter.unusedSimpArgs false


set_option maxHeartbeats 400000 in
theorem state_c (x : Int) (w : World) : Calls Try.prog 42 #[.int .i64 x] w fun e w' => e = .returned (.bool (rngB x 0 7)) ∧ w = w' := by
  go_enter Try.func42, Try.ntmps42
  go_wp2
  all_goals (go_ret; exact ⟨by simp [rngB]; omega, rfl⟩)
set_option maxHeartbeats 400000 in
theorem status_c (x : Int) (w : World) : Calls Try.prog 50 #[.int .i64 x] w fun e w' => e = .returned (.bool (rngB x 0 6)) ∧ w = w' := by
  go_enter Try.func50, Try.ntmps50
  go_wp2
  all_goals (go_ret; exact ⟨by simp [rngB]; omega, rfl⟩)
def ansMay (st tk sta : Int) : Bool := rngB st 0 6 && (rngB sta 0 7 && rngB tk 0 255)
set_option maxHeartbeats 400000 in
theorem may_c (st tk sta : Int) (w : World) : Calls Try.prog 36 #[.agg #[.int .i64 st, .int .i64 tk, .int .i64 sta]] w fun e w' => e = .returned (.bool (ansMay st tk sta)) ∧ Below w.heap.size w w' := by
  go_enter Try.func36, Try.ntmps36
  go_wp2_with (first | (go_at_call 42; refine (state_c _ _).mono ?_; rintro e w' ⟨rfl, rfl⟩) | (go_at_call 50; refine (status_c _ _).mono ?_; rintro e w' ⟨rfl, rfl⟩))
  all_goals go_ret
  all_goals (refine ⟨?_, bl_alloc (Below.refl _ _) _⟩; have h255 : rngB tk 0 255 = (decide (0 ≤ tk) && decide (tk ≤ 255)) := rfl; first | (simp [ansMay, h255, *]; done) | (simp [ansMay, h255, *]; omega))
def putB (st tk sta : Int) : ByteArray := bif ansMay st tk sta then lowB st 1 ++ lowB tk 3 ++ lowB sta 2 else ByteArray.empty
def putE (st tk sta : Int) : Int := bif ansMay st tk sta then 0 else 1400
set_option maxHeartbeats 800000 in
theorem put_c (st tk sta : Int) (w : World) : Calls Try.prog 32 #[.agg #[.int .i64 st, .int .i64 tk, .int .i64 sta]] w fun e w' => e = .returned (.tuple #[.string (putB st tk sta), .int .i64 (putE st tk sta)]) ∧ Below w.heap.size w w' := by
  cases hm : ansMay st tk sta
  · go_enter Try.func32, Try.ntmps32
    go_wp2_with (go_at_call 36; refine (may_c _ _ _ _).mono ?_; rintro e w' ⟨rfl, hb⟩; obtain ⟨hc, hf, hl, hn1, hn2⟩ := keep hb)
    go_ret2
    exact ⟨by simp [putB, putE, hm]; rfl, (by repeat (with_reducible first | exact Below.refl _ _ | assumption | (refine bl_set ?_ (by omega)) | apply bl_alloc | apply bl_drewN | apply bl_drew | (refine bl_step ?_ (by assumption)) | fail))⟩
  · go_enter Try.func32, Try.ntmps32
    go_wp2_with (go_at_call 36; refine (may_c _ _ _ _).mono ?_; rintro e w' ⟨rfl, hb⟩; obtain ⟨hc, hf, hl, hn1, hn2⟩ := keep hb)
    have HC : w'.cell? ⟨w.heap.size, 0, none⟩ = some (.int .i64 st) ∧ w'.cell? ⟨w.heap.size, 1, none⟩ = some (.int .i64 tk) ∧ w'.cell? ⟨w.heap.size, 2, none⟩ = some (.int .i64 sta) := ⟨cb hb (by simp), cb hb (by simp), cb hb (by simp)⟩
    have HB : Below w.heap.size w w' := (by repeat (with_reducible first | exact Below.refl _ _ | assumption | (refine bl_set ?_ (by omega)) | apply bl_alloc | apply bl_drewN | apply bl_drew | (refine bl_step ?_ (by assumption)) | fail))
    have z1 := lowB_size st 1
    have z2 := lowB_size tk 3
    have z3 := lowB_size sta 2
    clear hc hf hl hn1 hn2 hb
    go_region_held3 (fun W => W.cell? ⟨w.heap.size, 0, none⟩ = some (.int .i64 st) ∧ W.cell? ⟨w.heap.size, 1, none⟩ = some (.int .i64 tk) ∧ W.cell? ⟨w.heap.size, 2, none⟩ = some (.int .i64 sta) ∧ Below w'.heap.size w' W) (first | (refine k3 HC ?_; (repeat (with_reducible first | exact Below.refl _ _ | (apply kz3; assumption) | apply bl_alloc | apply bl_drew | apply bl_drewN | (refine bl_setn ?_ (by apply kz3; assumption)) | (refine bl_step ?_ (by assumption)) | fail)); done) | fail) (first | (go_at_call 46; refine (low_c _ _ _ (by omega) (by omega)).mono ?_; rintro e w' ⟨rfl, hb⟩) | fail)
    go_wp2
    go_ret2
    exact ⟨by simp [putB, putE, hm], bl_step HB (kz3 (by assumption))⟩

/-- the byte i of a text, as a number. -/
def byt (s : ByteArray) (i : Nat) : Int := (s.data.toList.getD i 0).toNat
theorem byt_at (s : ByteArray) (i : Nat) (h : i < s.size) : (s[i].toNat : Int) = byt s i := by
  have : i < s.data.toList.length := by simpa using h
  simp [byt, List.getD_eq_getElem?_getD, List.getElem?_eq_getElem this]; rfl
theorem byt_wrap (s : ByteArray) (i : Nat) : IntKind.i64.wrap (byt s i) = byt s i := by
  have := (s.data.toList.getD i 0).toNat_lt
  rw [IntKind.wrap_i64]; unfold byt; omega
def gotB (s : ByteArray) : Bool := decide (s.size = 6) && ansMay (byt s 0) (numB (s.extract 1 4)) (numB (s.extract 4 6))
def gotV (s : ByteArray) : Array Value := bif gotB s then #[.int .i64 (byt s 0), .int .i64 (numB (s.extract 1 4)), .int .i64 (numB (s.extract 4 6))] else #[.int .i64 0, .int .i64 0, .int .i64 0]
set_option maxHeartbeats 800000 in
theorem get_c (s : ByteArray) (w : World) : Calls Try.prog 34 #[.string s] w fun e w' => e = .returned (.tuple #[.agg (gotV s), .int .i64 (bif gotB s then 0 else 1400)]) ∧ Below w.heap.size w w' := by
  by_cases hs : s.size = 6
  · have e1 : (s.extract 1 4).size ≤ 4 := by simp; omega
    have e2 : (s.extract 4 6).size ≤ 4 := by simp; omega
    have e0 := byt_at s 0 (by omega)
    have e3 := byt_wrap s 0
    go_enter Try.func34, Try.ntmps34
    go_wp2
    have K0 := Blk.new w #[.int .i64 0, .int .i64 0, .int .i64 0] 44
    have B0 := bl_alloc (Below.refl w.heap.size w) (.cells #[.int .i64 0, .int .i64 0, .int .i64 0] 44)
    generalize w.alloc (.cells #[.int .i64 0, .int .i64 0, .int .i64 0] 44) = w1 at *
    go_cut [4] (fun v4 wc => ∃ g : Nat, v4 = .pointer (some ⟨g, 0, none⟩) ∧ w.heap.size < g ∧ Blk wc g #[.int .i64 (byt s 0), .int .i64 (numB (s.extract 1 4)), .int .i64 (numB (s.extract 4 6))] 44 ∧ Blk wc w.heap.size #[.int .i64 0, .int .i64 0, .int .i64 0] 44 ∧ Below w.heap.size w wc)
    case first =>
      go_region_held3 (fun W => Below w1.heap.size w1 W) (first | ((repeat (with_reducible first | exact Below.refl _ _ | assumption | apply bl_alloc | apply bl_drew | apply bl_drewN | (refine bl_setn ?_ (by assumption)) | (refine bl_step ?_ (by assumption)) | fail)); done) | fail) (first | (go_at_call 48; refine (num_c _ _ (by assumption)).mono ?_; rintro e w' ⟨rfl, rfl⟩) | fail)
      all_goals (go_wp2_with fail; go_meet; exact ⟨_, rfl, K0.lt, (Blk.new _ _ _).drew, (K0.alloc _).drew, bl_drew (bl_alloc B0 _)⟩)
    case rest =>
      obtain ⟨g, rfl, hg, K1, K2, B2⟩ := hcut
      have HK1 := Lib.hid K1
      have HK2 := Lib.hid K2
      have HB2 := Lib.hid B2
      have c0 := K1.cell 0
      have c1 := K1.cell 1
      have c2 := K1.cell 2
      clear K1 K2 B2 K0 B0
      go_wp2_with fail
      refine (may_c _ _ _ _).mono ?_
      rintro e w2 ⟨rfl, hb⟩
      have K3 := HK1.out.below hb
      have K4 := HK2.out.below hb
      have B3 := Lib.hid (bl_step HB2.out hb)
      clear c0 c1 c2 hb
      have c0 := K3.cell 0
      have c1 := K3.cell 1
      have c2 := K3.cell 2
      have d0 : w2.cell? ⟨w.heap.size, 0, none⟩ = some (.int .i64 0) := K4.cell 0
      have d1 : w2.cell? ⟨w.heap.size, 1, none⟩ = some (.int .i64 0) := K4.cell 1
      have d2 : w2.cell? ⟨w.heap.size, 2, none⟩ = some (.int .i64 0) := K4.cell 2
      have f0 := K4.frozen 0
      have f1 := K4.frozen 1
      have f2 := K4.frozen 2
      have hne : w.heap.size ≠ g := by omega
      have hne2 : g ≠ w.heap.size := by omega
      clear K3 K4
      cases hm : ansMay (byt s 0) (numB (s.extract 1 4)) (numB (s.extract 4 6))
      · have hg : gotB s = false := by simp [gotB, hm]
        go_wp2
        have B4 := B3.out
        exact bodyPost_ret (v := .tuple #[.agg #[.int .i64 0, .int .i64 0, .int .i64 0], .int .i64 1400]) (by simp [results, Try.results34, go_sem, d0, d1, d2]) rfl ⟨by simp [gotV, hg], (by repeat (with_reducible first | exact Below.refl _ _ | assumption | (refine bl_set ?_ (by omega)) | apply bl_alloc | apply bl_drewN | apply bl_drew | (refine bl_step ?_ (by assumption)) | fail))⟩
      · have hg : gotB s = true := by simp [gotB, hm, hs]
        go_wp2
        have B4 := B3.out
        exact bodyPost_ret (v := .tuple #[.agg #[.int .i64 (byt s 0), .int .i64 (numB (s.extract 1 4)), .int .i64 (numB (s.extract 4 6))], .int .i64 0]) (by simp [results, Try.results34, go_sem, d0, d1, d2]) rfl ⟨by simp [gotV, hg], (by repeat (with_reducible first | exact Below.refl _ _ | assumption | (refine bl_set ?_ (by omega)) | apply bl_alloc | apply bl_drewN | apply bl_drew | (refine bl_step ?_ (by assumption)) | fail))⟩
  · have h : ((s.size : Int) != 6) = true := by rw [bne_iff_ne]; omega
    have hg : gotB s = false := by simp [gotB, hs]
    go_enter Try.func34, Try.ntmps34
    go_wp2
    exact bodyPost_ret (v := .tuple #[.agg #[.int .i64 0, .int .i64 0, .int .i64 0], .int .i64 1400]) (by simp [results, Try.results34, go_sem]) rfl ⟨by simp [gotV, hg], (by repeat (with_reducible first | exact Below.refl _ _ | assumption | (refine bl_set ?_ (by omega)) | apply bl_alloc | apply bl_drewN | apply bl_drew | (refine bl_step ?_ (by assumption)) | fail))⟩
end Go.Proofs.Ytnbbbpeelplfoaa.An
