/- Layer 14: what the references' GetAnswer answers: the same. -/
import Derived.Test.YthoonffbadhplaaAns
namespace Go.Proofs.Ythoonffbadhplaa.An
open Go.RowKit Go.Proofs.Ythoonffbadhplaa.Kt Go.Proofs.Ythoonffbadhplaa.Lw Go.Proofs.Ythoonffbadhplaa.St Go.Proofs.Ythoonffbadhplaa.Nm
set_option linter.unusedVariables false
set_option linter.unusedSimpArgs false

theorem six_46 (s : ByteArray) (h : s.size = 6) : numB (s.extract 4 6) = byt s 4 + 256 * byt s 5 := by
  have hl : s.data.toList.length = 6 := by simpa using h
  have e4 : s.data.toList[4]? = some (s.data.toList[4]'(by omega)) := List.getElem?_eq_getElem (by omega)
  have e5 : s.data.toList[5]? = some (s.data.toList[5]'(by omega)) := List.getElem?_eq_getElem (by omega)
  have : (s.extract 4 6).data.toList = [s.data.toList[4]'(by omega), s.data.toList[5]'(by omega)] := by
    simp only [ByteArray.data_extract, Array.toList_extract, List.extract]
    rw [List.drop_eq_getElem_cons (by omega), List.drop_eq_getElem_cons (by omega)]
    simp
  unfold numB byt
  rw [this]
  simp only [ofL, List.getD_eq_getElem?_getD, e4, e5, Option.getD_some]
  omega
theorem six_put (s : ByteArray) (h : s.size = 6) (x : Int) (h0 : 0 ≤ x) (h1 : x < 65536) : lowB (byt s 0) 1 ++ lowB (numB (s.extract 1 4)) 3 ++ lowB x 2 = s ↔ numB (s.extract 4 6) = x := by
  have e0 : lowB (byt s 0) 1 = s.extract 0 1 := by
    have := lowB_numB (s.extract 0 1)
    rw [← byt_num s 0 (by omega)] at this
    simpa [h] using this
  have e1 : lowB (numB (s.extract 1 4)) 3 = s.extract 1 4 := by
    have := lowB_numB (s.extract 1 4)
    simpa [h] using this
  have e2 : lowB (numB (s.extract 4 6)) 2 = s.extract 4 6 := by
    have := lowB_numB (s.extract 4 6)
    simpa [h] using this
  have es : s.extract 0 1 ++ s.extract 1 4 ++ s.extract 4 6 = s := by
    rw [ByteArray.extract_append_extract]
    show s.extract 0 4 ++ s.extract 4 6 = s
    rw [ByteArray.extract_append_extract]
    show s.extract 0 6 = s
    have := ByteArray.extract_zero_size (b := s)
    simpa [h] using this
  rw [e0, e1]
  constructor
  · intro hx
    have hz : (s.extract 0 1 ++ s.extract 1 4).size = 4 := by simp [h]
    have := congrArg (fun t : ByteArray => t.extract 4 6) hx
    replace this : (s.extract 0 1 ++ s.extract 1 4 ++ lowB x 2).extract 4 6 = s.extract 4 6 := this
    rw [ByteArray.extract_append_eq_right (by omega) (by rw [hz, lowB_size])] at this
    rw [← this, numB_lowB]
    omega
  · intro hx
    rw [← hx, e2, es]
theorem got_no (s : ByteArray) (h : s.size = 6) (hm : ansMay (byt s 0) (numB (s.extract 1 4)) (byt s 4) = false) : gotB s = false := by
  have hb := byt_bd s 5
  have h4 := byt_bd s 4
  have e := six_46 s h
  cases hg : gotB s
  · rfl
  · have hg' : ansMay (byt s 0) (numB (s.extract 1 4)) (numB (s.extract 4 6)) = true := by simpa [gotB, h] using hg
    have := (may_sta hg').2.1
    have h5 : byt s 5 = 0 := by omega
    rw [e, h5] at hg'
    simp at hg'
    rw [hg'] at hm
    cases hm
theorem got_yes (s : ByteArray) (h : s.size = 6) (hm : ansMay (byt s 0) (numB (s.extract 1 4)) (byt s 4) = true) : (gotB s = true ∧ numB (s.extract 4 6) = byt s 4 ∧ putB (byt s 0) (numB (s.extract 1 4)) (byt s 4) = s) ∨ (gotB s = false ∧ putB (byt s 0) (numB (s.extract 1 4)) (byt s 4) ≠ s) := by
  have hb := byt_bd s 5
  have h4 := byt_bd s 4
  have e := six_46 s h
  have hp := six_put s h (byt s 4) h4.1 (by omega)
  have e2 : putB (byt s 0) (numB (s.extract 1 4)) (byt s 4) = lowB (byt s 0) 1 ++ lowB (numB (s.extract 1 4)) 3 ++ lowB (byt s 4) 2 := by simp [putB, hm]
  rw [e2]
  by_cases h5 : byt s 5 = 0
  · left
    have e3 : numB (s.extract 4 6) = byt s 4 := by omega
    exact ⟨by simp [gotB, h, e3, hm], e3, hp.2 e3⟩
  · right
    refine ⟨?_, fun hx => h5 (by have := hp.1 hx; omega)⟩
    cases hg : gotB s
    · rfl
    · have hg' : ansMay (byt s 0) (numB (s.extract 1 4)) (numB (s.extract 4 6)) = true := by simpa [gotB, h] using hg
      have := (may_sta hg').2.1
      omega
set_option maxHeartbeats 1600000 in
theorem rget_c (s : ByteArray) (w : World) : Calls Try.prog 50 #[.string s] w fun e w' => e = .returned (.tuple #[.agg (gotV s), .int .i64 (bif gotB s then 0 else 1400)]) ∧ Below w.heap.size w w' := by
  by_cases hs : s.size = 6
  · have e1 : (s.extract 1 4).size ≤ 4 := by simp; omega
    have e0 := byt_at s 0 (by omega)
    have e3 := byt_wrap s 0
    have e4 := byt_at s 4 (by omega)
    have e5 := byt_wrap s 4
    go_enter Try.func50, Try.ntmps50
    go_wp2
    have K0 := Blk.new w #[.int .i64 0, .int .i64 0, .int .i64 0] 43
    have B0 := bl_alloc (Below.refl w.heap.size w) (.cells #[.int .i64 0, .int .i64 0, .int .i64 0] 43)
    generalize w.alloc (.cells #[.int .i64 0, .int .i64 0, .int .i64 0] 43) = w1 at *
    go_cut [4] (fun v4 wc => ∃ g : Nat, v4 = .pointer (some ⟨g, 0, none⟩) ∧ w.heap.size < g ∧ Blk wc g #[.int .i64 (byt s 0), .int .i64 (numB (s.extract 1 4)), .int .i64 (byt s 4)] 43 ∧ Blk wc w.heap.size #[.int .i64 0, .int .i64 0, .int .i64 0] 43 ∧ Below w.heap.size w wc)
    case first =>
      go_region_held3 (fun W => Below w1.heap.size w1 W) (first | ((repeat (with_reducible first | exact Below.refl _ _ | assumption | apply bl_alloc | apply bl_drew | apply bl_drewN | (refine bl_setn ?_ (by assumption)) | (refine bl_step ?_ (by assumption)) | fail)); done) | fail) (first | (go_at_call 61; refine (of_c _ _ (by assumption)).mono ?_; rintro e w' ⟨rfl, rfl⟩) | fail)
      all_goals (go_wp2_with fail; go_meet; exact ⟨_, rfl, K0.lt, (Blk.new _ _ _).drew, (K0.alloc _).drew, bl_drew (bl_alloc B0 _)⟩)
    case rest =>
      obtain ⟨g, rfl, hg, K1, K2, HB⟩ := hcut
      clear K0 B0
      obtain ⟨_, _, _, _, _, _, _⟩ := Blk.all3 K1
      obtain ⟨_, _, _, _, _, _, _⟩ := Blk.all3 K2
      have hne : w.heap.size ≠ g := by omega
      have hne2 : g ≠ w.heap.size := by omega
      have HS := Lib.hid hs
      have E1 := Lib.hid e1
      clear hs e1 e0 e3 e4 e5
      cases hm : ansMay (byt s 0) (numB (s.extract 1 4)) (byt s 4)
      · have hg := got_no s HS.out hm
        have p1 : putE (byt s 0) (numB (s.extract 1 4)) (byt s 4) = 1400 := by simp [putE, hm]
        clear hm
        go_wp2_with (first | (go_at_call 16; refine (rput_c _ _ _ _).mono ?_; rintro e w' ⟨rfl, hb⟩; have HB := bl_step (by repeat (with_reducible first | exact HB | apply bl_alloc | apply bl_drew | apply bl_drewN | fail)) hb; have K1 := Blk.below (by repeat (with_reducible first | exact K1 | exact K1 _ | exact K1 _ _ | apply Blk.alloc | apply Blk.drew | apply Blk.drewN | fail)) hb; obtain ⟨_, _, _, _, _, _, _⟩ := Blk.all3 K1; have K2 := Blk.below (by repeat (with_reducible first | exact K2 | exact K2 _ | exact K2 _ _ | apply Blk.alloc | apply Blk.drew | apply Blk.drewN | fail)) hb; obtain ⟨_, _, _, _, _, _, _⟩ := Blk.all3 K2) | fail)
        have d0 : w'.cell? ⟨w.heap.size, 0, none⟩ = some (.int .i64 0) := K2.cell 0
        have d1 : w'.cell? ⟨w.heap.size, 1, none⟩ = some (.int .i64 0) := K2.cell 1
        have d2 : w'.cell? ⟨w.heap.size, 2, none⟩ = some (.int .i64 0) := K2.cell 2
        exact bodyPost_ret (v := .tuple #[.agg #[.int .i64 0, .int .i64 0, .int .i64 0], .int .i64 1400]) (by simp [results, Try.results50, go_sem, d0, d1, d2]) rfl ⟨by simp [gotV, hg], (by repeat (with_reducible first | exact Below.refl _ _ | assumption | (refine bl_set ?_ (by omega)) | apply bl_alloc | apply bl_drewN | apply bl_drew | (refine bl_step ?_ (by assumption)) | fail))⟩
      · have p1 : putE (byt s 0) (numB (s.extract 1 4)) (byt s 4) = 0 := by simp [putE, hm]
        rcases got_yes s HS.out hm with ⟨hg, hn, hp⟩ | ⟨hg, hp⟩
        · have q1 := eqs_t hp
          have HN := Lib.hid hn
          clear hn hp hm
          go_wp2_with (first | (go_at_call 16; refine (rput_c _ _ _ _).mono ?_; rintro e w' ⟨rfl, hb⟩; have HB := bl_step (by repeat (with_reducible first | exact HB | apply bl_alloc | apply bl_drew | apply bl_drewN | fail)) hb; have K1 := Blk.below (by repeat (with_reducible first | exact K1 | exact K1 _ | exact K1 _ _ | apply Blk.alloc | apply Blk.drew | apply Blk.drewN | fail)) hb; obtain ⟨_, _, _, _, _, _, _⟩ := Blk.all3 K1; have K2 := Blk.below (by repeat (with_reducible first | exact K2 | exact K2 _ | exact K2 _ _ | apply Blk.alloc | apply Blk.drew | apply Blk.drewN | fail)) hb; obtain ⟨_, _, _, _, _, _, _⟩ := Blk.all3 K2) | fail)
          have d0 : w'.cell? ⟨w.heap.size, 0, none⟩ = some (.int .i64 0) := K2.cell 0
          have d1 : w'.cell? ⟨w.heap.size, 1, none⟩ = some (.int .i64 0) := K2.cell 1
          have d2 : w'.cell? ⟨w.heap.size, 2, none⟩ = some (.int .i64 0) := K2.cell 2
          exact bodyPost_ret (v := .tuple #[.agg #[.int .i64 (byt s 0), .int .i64 (numB (s.extract 1 4)), .int .i64 (byt s 4)], .int .i64 0]) (by simp [results, Try.results50, go_sem, d0, d1, d2]) rfl ⟨by simp [gotV, hg, HN.out], (by repeat (with_reducible first | exact Below.refl _ _ | assumption | (refine bl_set ?_ (by omega)) | apply bl_alloc | apply bl_drewN | apply bl_drew | (refine bl_step ?_ (by assumption)) | fail))⟩
        · have q1 := eqs_f hp
          clear hp hm
          go_wp2_with (first | (go_at_call 16; refine (rput_c _ _ _ _).mono ?_; rintro e w' ⟨rfl, hb⟩; have HB := bl_step (by repeat (with_reducible first | exact HB | apply bl_alloc | apply bl_drew | apply bl_drewN | fail)) hb; have K1 := Blk.below (by repeat (with_reducible first | exact K1 | exact K1 _ | exact K1 _ _ | apply Blk.alloc | apply Blk.drew | apply Blk.drewN | fail)) hb; obtain ⟨_, _, _, _, _, _, _⟩ := Blk.all3 K1; have K2 := Blk.below (by repeat (with_reducible first | exact K2 | exact K2 _ | exact K2 _ _ | apply Blk.alloc | apply Blk.drew | apply Blk.drewN | fail)) hb; obtain ⟨_, _, _, _, _, _, _⟩ := Blk.all3 K2) | fail)
          have d0 : w'.cell? ⟨w.heap.size, 0, none⟩ = some (.int .i64 0) := K2.cell 0
          have d1 : w'.cell? ⟨w.heap.size, 1, none⟩ = some (.int .i64 0) := K2.cell 1
          have d2 : w'.cell? ⟨w.heap.size, 2, none⟩ = some (.int .i64 0) := K2.cell 2
          exact bodyPost_ret (v := .tuple #[.agg #[.int .i64 0, .int .i64 0, .int .i64 0], .int .i64 1400]) (by simp [results, Try.results50, go_sem, d0, d1, d2]) rfl ⟨by simp [gotV, hg], (by repeat (with_reducible first | exact Below.refl _ _ | assumption | (refine bl_set ?_ (by omega)) | apply bl_alloc | apply bl_drewN | apply bl_drew | (refine bl_step ?_ (by assumption)) | fail))⟩
  · have h : ((s.size : Int) != 6) = true := by rw [bne_iff_ne]; omega
    have hg : gotB s = false := by simp [gotB, hs]
    go_enter Try.func50, Try.ntmps50
    go_wp2
    exact bodyPost_ret (v := .tuple #[.agg #[.int .i64 0, .int .i64 0, .int .i64 0], .int .i64 1400]) (by simp [results, Try.results50, go_sem]) rfl ⟨by simp [gotV, hg], (by repeat (with_reducible first | exact Below.refl _ _ | assumption | (refine bl_set ?_ (by omega)) | apply bl_alloc | apply bl_drewN | apply bl_drew | (refine bl_step ?_ (by assumption)) | fail))⟩
end Go.Proofs.Ythoonffbadhplaa.An
