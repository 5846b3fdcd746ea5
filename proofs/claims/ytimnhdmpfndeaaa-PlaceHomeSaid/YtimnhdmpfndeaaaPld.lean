/- Layer 8: where the next record goes: what the program's and the references' Append answer. -/
import Derived.Test.YtimnhdmpfndeaaaPlc
namespace Go.Proofs.Ytimnhdmpfndeaaa.Pl
open Go.RowKit Go.Proofs.Ytimnhdmpfndeaaa.Kt Go.Proofs.Ytimnhdmpfndeaaa.Lw Go.Proofs.Ytimnhdmpfndeaaa.St Go.Proofs.Ytimnhdmpfndeaaa.Nm Go.Proofs.Ytimnhdmpfndeaaa.By Go.Proofs.Ytimnhdmpfndeaaa.En Go.Proofs.Ytimnhdmpfndeaaa.Jr Go.Proofs.Ytimnhdmpfndeaaa.Im Go.Proofs.Ytimnhdmpfndeaaa.Sl Go.Proofs.Ytimnhdmpfndeaaa.Gr Go.Proofs.Ytimnhdmpfndeaaa.Ops Go.Proofs.Ytimnhdmpfndeaaa.Ch
set_option linter.unusedVariables false
set_option linter.unusedSimpArgs false
attribute [local irreducible] gotB goodB Cr.crcB nQ nS nZ nM placeB wholeB
/-- the sector of the active record. -/
def homeN (f : ByteArray) : Nat := match activeO f with | some p => (p.at_ / 96).toNat | none => 0
theorem home_some {f : ByteArray} {p : PlV} (h : activeO f = some p) : homeN f = (p.at_ / 96).toNat := by simp only [homeN, h]
theorem home_none {f : ByteArray} (h : activeO f = none) : homeN f = 0 := by simp only [homeN, h]
theorem act_ok {f : ByteArray} {p : PlV} (h : activeO f = some p) : PlOk f p := by
  have k := active_best f
  rw [h] at k
  exact scan_ok k.mem
theorem home_lt (f : ByteArray) : homeN f < 2 := by
  cases h : activeO f with
  | none => rw [home_none h]; decide
  | some p =>
    have := (act_ok h).at_rng
    rw [home_some h]
    omega
/-- where a record goes, and the steps. -/
def spotN (f : ByteArray) : Int := match freeO f (homeN f) with | some k => 24 * (k : Int) | none => (1 - (homeN f : Int)) * 96
def headL (f : ByteArray) : List OpV := match freeO f (homeN f) with | some _ => [] | none => [(true, (1 - (homeN f : Int)) * 96, ⟨#[]⟩)]
def appL (f : ByteArray) (q s z m : Int) : List OpV := headL f ++ wordsL (spotN f) (wholeB q s z m)
theorem free_lt {f : ByteArray} : ∀ (n k j : Nat), freeFrom f k n = some j → k ≤ j ∧ j < k + n
  | 0, k, j, h => by simp [freeFrom] at h
  | n + 1, k, j, h => by
    unfold freeFrom at h
    by_cases hp : placeB f k = fullB 24
    · rw [if_pos hp] at h
      have := Option.some.inj h
      omega
    · rw [if_neg hp] at h
      have := free_lt n (k + 1) j h
      omega
theorem freeO_lt {f : ByteArray} {s k : Nat} (h : freeO f s = some k) : 4 * s ≤ k ∧ k < 4 * s + 4 := free_lt 4 (4 * s) k h
theorem freeV_some {f : ByteArray} {s k : Nat} (h : freeO f s = some k) : freeV f s = #[.int .i64 (24 * (k : Int)), .bool true, .int .i64 0] := by simp [freeV, freeA, h]
theorem freeV_none {f : ByteArray} {s : Nat} (h : freeO f s = none) : freeV f s = #[.int .i64 0, .bool false, .int .i64 0] := by simp [freeV, freeA, h]
set_option maxHeartbeats 3200000 in
theorem home_c (f : ByteArray) (w : World) (hf : f.size = 768) : Calls Try.prog 36 #[.string f] w fun e w' => e = .returned (.int .i64 (homeN f)) ∧ Below w.heap.size w w' := by
  have HB := Below.refl w.heap.size w
  have ac := Lib.hid (fun W : World => active_c f W hf)
  cases ho : activeO f with
  | none =>
    have hv := act_none ho
    rw [hv.1, hv.2] at ac
    have hh := Lib.hid (home_none ho)
    clear ho hv
    go_enter Try.func36, Try.ntmps36
    go_wp2_with (first | (go_at_call 63; with_reducible refine (ac.out _).mono ?_; rintro e w' ⟨rfl, hb⟩; have HB := bl_step (w := w) (by repeat (with_reducible first | exact HB | (refine bl_set ?_ (by omega)) | apply bl_alloc | apply bl_drew | apply bl_drewN | fail)) hb; have hzB := HB.size; have K1 := fun cs => Blk.new w' cs 40) | fail)
    go_ret
    exact ⟨by rw [hh.out]; rfl, (by repeat (with_reducible first | exact Below.refl _ _ | assumption | (refine bl_set ?_ (by omega)) | apply bl_alloc | apply bl_drewN | apply bl_drew | (refine bl_step ?_ (by assumption)) | fail))⟩
  | some p =>
    have hv := act_some ho
    rw [hv.1, hv.2] at ac
    have hr := (act_ok ho).at_rng
    obtain ⟨hr0, hr1⟩ := hr
    have hh := Lib.hid (show (homeN f : Int) = p.at_ / 96 by rw [home_some ho]; omega)
    clear ho hv
    go_enter Try.func36, Try.ntmps36
    go_wp2_with (first | (go_at_call 63; with_reducible refine (ac.out _).mono ?_; rintro e w' ⟨rfl, hb⟩; have HB := bl_step (w := w) (by repeat (with_reducible first | exact HB | (refine bl_set ?_ (by omega)) | apply bl_alloc | apply bl_drew | apply bl_drewN | fail)) hb; have hzB := HB.size; have K1 := fun cs => Blk.new w' cs 40) | fail)
    go_ret
    exact ⟨by rw [hh.out]; rfl, (by repeat (with_reducible first | exact Below.refl _ _ | assumption | (refine bl_set ?_ (by omega)) | apply bl_alloc | apply bl_drewN | apply bl_drew | (refine bl_step ?_ (by assumption)) | fail))⟩
theorem words24_c (a : Int) (t : ByteArray) (w : World) (a0 : 0 ≤ a) (a4 : a % 4 = 0) (ha : a ≤ 700) (ht : t.size = 24) :
    Calls Try.prog 39 #[.int .i64 a, .string t] w fun e w' => ∃ A c, e = .returned (.tuple #[.slice A 6 c, .int .i64 0]) ∧ w'.ownsRow w.heap.size 50 3 (.slice A 6 c) 6 ((wordsL a t).flatMap encOp) ∧ Below w.heap.size w w' := by
  have h := words_c a t w a0 a4 (by omega)
  rwa [ht] at h
theorem rwords24_c (a : Int) (t : ByteArray) (w : World) (a0 : 0 ≤ a) (a4 : a % 4 = 0) (ha : a ≤ 700) (ht : t.size = 24) :
    Calls Try.prog 41 #[.int .i64 a, .string t] w fun e w' => ∃ A c, e = .returned (.tuple #[.slice A 6 c, .int .i64 0]) ∧ w'.ownsRow w.heap.size 50 3 (.slice A 6 c) 6 ((wordsL a t).flatMap encOp) ∧ Below w.heap.size w w' := by
  have h := rwords_c a t w a0 a4 (by omega)
  rwa [ht] at h
theorem words24_len {a : Int} {t : ByteArray} (ht : t.size = 24) : (wordsL a t).length = 6 := by
  unfold wordsL
  rw [wordsN_len, ht]
def appY (f : ByteArray) (q s z m : Int) (w : World) (e : Ending) (w' : World) : Prop := ∃ (A : Option Addr) (c : Nat), e = .returned (.tuple #[.slice A (appL f q s z m).length c, .int .i64 0]) ∧ w'.ownsRow w.heap.size 50 3 (.slice A (appL f q s z m).length c) (appL f q s z m).length ((appL f q s z m).flatMap encOp) ∧ Below w.heap.size w w'
set_option maxRecDepth 100000 in
set_option maxHeartbeats 6400000 in
theorem append_no (f : ByteArray) (q s z m : Int) (w : World) (h : f.size ≤ 9223372036854775807) (hn : ¬ (f.size = 768 ∧ recMay q s z m = true)) :
    Calls Try.prog 12 #[.string f, .agg #[.int .i64 q, .int .i64 s, .int .i64 z, .int .i64 m]] w fun e w' => e = .returned (.tuple #[.slice none 0 0, .int .i64 800]) ∧ Below w.heap.size w w' := by
  have HB := Below.refl w.heap.size w
  have K0 := Blk.new w #[.int .i64 q, .int .i64 s, .int .i64 z, .int .i64 m] 23
  have mm := Lib.hid (fun W : World => may_c f W h)
  have pp := Lib.hid (fun W : World => put_c q s z m W)
  by_cases hf : f.size = 768
  · have hm : recMay q s z m = false := by
      cases hq : recMay q s z m
      · rfl
      · exact absurd ⟨hf, hq⟩ hn
    have hv : putB q s z m = ⟨#[]⟩ ∧ putE q s z m = 400 := by simp [putB, putE, hm]
    rw [hv.1, hv.2] at pp
    rw [decide_eq_true hf] at mm
    clear hm hf hn hv
    go_enter Try.func12, Try.ntmps12
    go_wp2_with (first | (go_at_call 34; with_reducible refine (pp.out _).mono ?_; rintro e w' ⟨rfl, hb⟩; have HB := bl_step (w := w) (by repeat (with_reducible first | exact HB | (refine bl_set ?_ (by omega)) | apply bl_alloc | apply bl_drew | apply bl_drewN | fail)) hb; have hzB := HB.size; have K0 := Blk.on (by first | exact K0 | exact K0 #[] | exact K0 (.cells #[] 0) #[]) (by repeat (with_reducible first | exact K0 | exact K0 _ | exact K0 _ _ | apply Blk.alloc | apply Blk.drew | apply Blk.drewN | apply Blk.set4_0 | apply Blk.set4_1 | apply Blk.set4_2 | apply Blk.set4_3 | (apply Blk.off; (first | assumption | omega | (simp; omega))) | fail)) hb; (try clear cK0_0 cK0_1 cK0_2 cK0_3 fK0 lK0 nK0 mK0); obtain ⟨cK0_0, cK0_1, cK0_2, cK0_3, fK0, lK0, nK0, mK0⟩ := Blk.all4 K0) | (go_at_call 35; with_reducible refine (mm.out _).mono ?_; rintro e w' ⟨rfl, rfl⟩) | fail)
    go_ret2
    exact ⟨rfl, HB⟩
  · rw [decide_eq_false hf] at mm
    clear hf hn
    go_enter Try.func12, Try.ntmps12
    go_wp2_with (first | (go_at_call 34; with_reducible refine (pp.out _).mono ?_; rintro e w' ⟨rfl, hb⟩; have HB := bl_step (w := w) (by repeat (with_reducible first | exact HB | (refine bl_set ?_ (by omega)) | apply bl_alloc | apply bl_drew | apply bl_drewN | fail)) hb; have hzB := HB.size; have K0 := Blk.on (by first | exact K0 | exact K0 #[] | exact K0 (.cells #[] 0) #[]) (by repeat (with_reducible first | exact K0 | exact K0 _ | exact K0 _ _ | apply Blk.alloc | apply Blk.drew | apply Blk.drewN | apply Blk.set4_0 | apply Blk.set4_1 | apply Blk.set4_2 | apply Blk.set4_3 | (apply Blk.off; (first | assumption | omega | (simp; omega))) | fail)) hb; (try clear cK0_0 cK0_1 cK0_2 cK0_3 fK0 lK0 nK0 mK0); obtain ⟨cK0_0, cK0_1, cK0_2, cK0_3, fK0, lK0, nK0, mK0⟩ := Blk.all4 K0) | (go_at_call 35; with_reducible refine (mm.out _).mono ?_; rintro e w' ⟨rfl, rfl⟩) | fail)
    go_ret2
    exact ⟨rfl, HB⟩
set_option maxRecDepth 100000 in
set_option maxHeartbeats 6400000 in
theorem rappend_no (f : ByteArray) (q s z m : Int) (w : World) (h : f.size ≤ 9223372036854775807) (hn : ¬ (f.size = 768 ∧ recMay q s z m = true)) :
    Calls Try.prog 13 #[.string f, .agg #[.int .i64 q, .int .i64 s, .int .i64 z, .int .i64 m]] w fun e w' => e = .returned (.tuple #[.slice none 0 0, .int .i64 800]) ∧ Below w.heap.size w w' := by
  have HB := Below.refl w.heap.size w
  have K0 := Blk.new w #[.int .i64 q, .int .i64 s, .int .i64 z, .int .i64 m] 23
  have mm := Lib.hid (fun W : World => rmay_c f W h)
  have pp := Lib.hid (fun W : World => rput_c q s z m W)
  by_cases hf : f.size = 768
  · have hm : recMay q s z m = false := by
      cases hq : recMay q s z m
      · rfl
      · exact absurd ⟨hf, hq⟩ hn
    have hv : putB q s z m = ⟨#[]⟩ ∧ putE q s z m = 400 := by simp [putB, putE, hm]
    rw [hv.1, hv.2] at pp
    rw [decide_eq_true hf] at mm
    clear hm hf hn hv
    go_enter Try.func13, Try.ntmps13
    go_wp2_with (first | (go_at_call 25; with_reducible refine (pp.out _).mono ?_; rintro e w' ⟨rfl, hb⟩; have HB := bl_step (w := w) (by repeat (with_reducible first | exact HB | (refine bl_set ?_ (by omega)) | apply bl_alloc | apply bl_drew | apply bl_drewN | fail)) hb; have hzB := HB.size; have K0 := Blk.on (by first | exact K0 | exact K0 #[] | exact K0 (.cells #[] 0) #[]) (by repeat (with_reducible first | exact K0 | exact K0 _ | exact K0 _ _ | apply Blk.alloc | apply Blk.drew | apply Blk.drewN | apply Blk.set4_0 | apply Blk.set4_1 | apply Blk.set4_2 | apply Blk.set4_3 | (apply Blk.off; (first | assumption | omega | (simp; omega))) | fail)) hb; (try clear cK0_0 cK0_1 cK0_2 cK0_3 fK0 lK0 nK0 mK0); obtain ⟨cK0_0, cK0_1, cK0_2, cK0_3, fK0, lK0, nK0, mK0⟩ := Blk.all4 K0) | (go_at_call 31; with_reducible refine (mm.out _).mono ?_; rintro e w' ⟨rfl, rfl⟩) | fail)
    go_ret2
    exact ⟨rfl, HB⟩
  · rw [decide_eq_false hf] at mm
    clear hf hn
    go_enter Try.func13, Try.ntmps13
    go_wp2_with (first | (go_at_call 25; with_reducible refine (pp.out _).mono ?_; rintro e w' ⟨rfl, hb⟩; have HB := bl_step (w := w) (by repeat (with_reducible first | exact HB | (refine bl_set ?_ (by omega)) | apply bl_alloc | apply bl_drew | apply bl_drewN | fail)) hb; have hzB := HB.size; have K0 := Blk.on (by first | exact K0 | exact K0 #[] | exact K0 (.cells #[] 0) #[]) (by repeat (with_reducible first | exact K0 | exact K0 _ | exact K0 _ _ | apply Blk.alloc | apply Blk.drew | apply Blk.drewN | apply Blk.set4_0 | apply Blk.set4_1 | apply Blk.set4_2 | apply Blk.set4_3 | (apply Blk.off; (first | assumption | omega | (simp; omega))) | fail)) hb; (try clear cK0_0 cK0_1 cK0_2 cK0_3 fK0 lK0 nK0 mK0); obtain ⟨cK0_0, cK0_1, cK0_2, cK0_3, fK0, lK0, nK0, mK0⟩ := Blk.all4 K0) | (go_at_call 31; with_reducible refine (mm.out _).mono ?_; rintro e w' ⟨rfl, rfl⟩) | fail)
    go_ret2
    exact ⟨rfl, HB⟩
end Go.Proofs.Ytimnhdmpfndeaaa.Pl
