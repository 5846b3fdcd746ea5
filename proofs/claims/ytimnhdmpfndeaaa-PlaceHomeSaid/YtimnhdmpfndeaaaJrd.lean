/- Layer 5: the first place that is free: the walks. -/
import Derived.Test.YtimnhdmpfndeaaaJrc
namespace Go.Proofs.Ytimnhdmpfndeaaa.Jr
open Go.RowKit Go.Proofs.Ytimnhdmpfndeaaa.Kt Go.Proofs.Ytimnhdmpfndeaaa.Lw Go.Proofs.Ytimnhdmpfndeaaa.St Go.Proofs.Ytimnhdmpfndeaaa.Nm Go.Proofs.Ytimnhdmpfndeaaa.By Go.Proofs.Ytimnhdmpfndeaaa.En Go.Proofs.Ytimnhdmpfndeaaa.Gr
set_option linter.unusedVariables false
set_option linter.unusedSimpArgs false
/-- the first of n places from k on that is blank. -/
def freeFrom (f : ByteArray) (k : Nat) : Nat → Option Nat
  | 0 => none
  | n + 1 => if placeB f k = fullB 24 then some k else freeFrom f (k + 1) n
def freeO (f : ByteArray) (s : Nat) : Option Nat := freeFrom f (4 * s) 4
def freeA (f : ByteArray) (s : Nat) : Int := match freeO f s with | some k => 24 * (k : Int) | none => 0
def freeV (f : ByteArray) (s : Nat) : Array Value := #[.int .i64 (freeA f s), .bool (freeO f s).isSome, .int .i64 0]
theorem free_hit {f : ByteArray} {s k n : Nat} (h : freeO f s = freeFrom f k (n + 1)) (hp : placeB f k = fullB 24) : freeV f s = #[.int .i64 (24 * (k : Int)), .bool true, .int .i64 0] := by
  have e : freeO f s = some k := by rw [h]; simp [freeFrom, hp]
  simp [freeV, freeA, e]
theorem free_miss {f : ByteArray} {s k n : Nat} (h : freeO f s = freeFrom f k (n + 1)) (hp : ¬ placeB f k = fullB 24) : freeO f s = freeFrom f (k + 1) n := by rw [h]; simp [freeFrom, hp]
theorem free_none {f : ByteArray} {s k : Nat} (h : freeO f s = freeFrom f k 0) : freeV f s = #[.int .i64 0, .bool false, .int .i64 0] := by
  have e : freeO f s = none := h
  simp [freeV, freeA, e]
theorem begin_c (x : Int) (w : World) (h0 : 0 ≤ x) (h1 : x ≤ 1000000) : Calls Try.prog 38 #[.int .i64 x] w fun e w' => e = .returned (.int .i64 (x * 96)) ∧ w = w' := by
  go_enter Try.func38, Try.ntmps38
  go_wp2
  go_ret
  exact ⟨rfl, rfl⟩
theorem ret3 {a b : Array Value} (h : a = b) : Ending.returned (.tuple a) = Ending.returned (.tuple b) := by rw [h]
set_option maxRecDepth 100000 in
set_option maxHeartbeats 6400000 in
theorem free_c (f : ByteArray) (s : Nat) (w : World) (hf : f.size = 768) (hs : s < 2) : Calls Try.prog 37 #[.string f, .int .i64 s] w fun e w' => e = .returned (.tuple (freeV f s)) ∧ Below w.heap.size w w' := by
  have mm := Lib.hid (fun W : World => may_c f W (by omega))
  rw [decide_eq_true hf] at mm
  have HF := Lib.hid hf
  have hs0 : decide ((s : Int) < 0) = false := by simp
  have hs1 : decide (2 ≤ (s : Int)) = false := by simp; omega
  have bg := Lib.hid (fun W : World => begin_c (s : Int) W (by omega) (by omega))
  have rp := Lib.hid (fun W : World => repeat_c 24 W (by decide))
  rw [show ((24 : Nat) : Int) = 24 from rfl] at rp
  clear hf
  go_enter Try.func37, Try.ntmps37
  go_wp2_with (first | (go_at_call 35; with_reducible refine (mm.out _).mono ?_; rintro e w' ⟨rfl, rfl⟩) | fail)
  go_loopg [7, 8, 20] 4 (fun gg _ _ s20 wr => ∃ i : Nat, i ≤ 4 ∧ 4 - i ≤ gg ∧ s20 = .int .i64 i ∧ Aside (freeO f s = freeFrom f (4 * s + i) (4 - i)) ∧ Aside (Below w.heap.size w wr))
  case atStart => exact ⟨0, by omega, by omega, rfl, rfl, Below.refl _ _⟩
  case round =>
    clear mm
    obtain ⟨i, hi, hg, rfl, BF, BW⟩ := hrel
    have HB := BW.out
    by_cases hlt : i < 4
    · obtain ⟨k, hk⟩ : ∃ k, k = 4 * s + i := ⟨_, rfl⟩
      have HK := Lib.hid hk
      have hkm : (s : Int) * 96 + (i : Int) * 24 = 24 * (k : Int) := by omega
      have a1 := Lib.hid (fun W : World => at_c f k W (by have := HF.out; omega) (by omega))
      have BF2 : Aside (freeO f s = freeFrom f k (3 - i + 1)) := by
        show freeO f s = _
        have := BF.out
        rwa [← HK.out, show 4 - i = 3 - i + 1 by omega] at this
      have hk8 : k < 8 := by omega
      clear hk BF
      by_cases hp : placeB f k = fullB 24
      · have q1 := eqs_t hp
        have hv := Lib.hid (free_hit BF2.out hp)
        clear hp
        go_wp2_with (first | (go_at_call 38; with_reducible refine (bg.out _).mono ?_; rintro e w' ⟨rfl, rfl⟩) | (go_at_call 58; with_reducible refine (a1.out _).mono ?_; rintro e w' ⟨rfl, rfl⟩) | (go_at_call 64; with_reducible refine (rp.out _).mono ?_; rintro e w' ⟨rfl, hb⟩; have HB := bl_step (w := w) (by repeat (with_reducible first | exact HB | (refine bl_set ?_ (by omega)) | apply bl_alloc | apply bl_drew | apply bl_drewN | fail)) hb; have hzB := HB.size) | fail)
        go_ret3
        exact ⟨ret3 hv.out.symm, HB⟩
      · have q1 := eqs_f hp
        have hv := Lib.hid (free_miss BF2.out hp)
        clear hp
        go_wp2_with (first | (go_at_call 38; with_reducible refine (bg.out _).mono ?_; rintro e w' ⟨rfl, rfl⟩) | (go_at_call 58; with_reducible refine (a1.out _).mono ?_; rintro e w' ⟨rfl, rfl⟩) | (go_at_call 64; with_reducible refine (rp.out _).mono ?_; rintro e w' ⟨rfl, hb⟩; have HB := bl_step (w := w) (by repeat (with_reducible first | exact HB | (refine bl_set ?_ (by omega)) | apply bl_alloc | apply bl_drew | apply bl_drewN | fail)) hb; have hzB := HB.size) | fail)
        go_roundg (4 - (i + 1))
        case measure => omega
        case rel => exact ⟨i + 1, by omega, by omega, by go_num, (by show freeO f s = _; rw [hv.out, HK.out, show 4 - (i + 1) = 3 - i by omega]; rfl), HB⟩
    · obtain rfl : i = 4 := by omega
      have hv := Lib.hid (free_none (f := f) (s := s) (k := 4 * s + 4) BF.out)
      go_wp2_with fail
      go_ret3
      exact ⟨ret3 hv.out.symm, HB⟩
set_option maxRecDepth 100000 in
set_option maxHeartbeats 6400000 in
theorem rfree_c (f : ByteArray) (s : Nat) (w : World) (hf : f.size = 768) (hs : s < 2) : Calls Try.prog 40 #[.string f, .int .i64 s] w fun e w' => e = .returned (.tuple (freeV f s)) ∧ Below w.heap.size w w' := by
  have mm := Lib.hid (fun W : World => rmay_c f W (by omega))
  rw [decide_eq_true hf] at mm
  have HF := Lib.hid hf
  have uu := Lib.hid (fun W : World => upTo_c (s : Int) 0 1 W)
  rw [show rngB (s : Int) 0 1 = true by simp [rngB]; omega] at uu
  have rp := Lib.hid (fun W : World => rfull_c 24 (by decide) W)
  rw [show ((24 : Nat) : Int) = 24 from rfl] at rp
  clear hf
  go_enter Try.func40, Try.ntmps40
  go_wp2_with (first | (go_at_call 31; with_reducible refine (mm.out _).mono ?_; rintro e w' ⟨rfl, rfl⟩) | (go_at_call 44; with_reducible refine (uu.out _).mono ?_; rintro e w' ⟨rfl, rfl⟩) | fail)
  go_loopg [7] 4 (fun gg s7 wr => ∃ i k : Nat, i ≤ 4 ∧ 4 - i ≤ gg ∧ k = 4 * s + i ∧ s7 = .int .i64 (24 * (k : Int)) ∧ Aside (freeO f s = freeFrom f k (4 - i)) ∧ Aside (Below w.heap.size w wr))
  case atStart => exact ⟨0, 4 * s, by omega, by omega, rfl, vInt (by omega), rfl, Below.refl _ _⟩
  case round =>
    clear mm uu
    obtain ⟨i, k, hi, hg, hk, rfl, BF, BW⟩ := hrel
    have HB := BW.out
    have HK := Lib.hid hk
    have hk8 : k ≤ 8 := by omega
    by_cases hlt : i < 4
    · have hl1 : 24 * (k : Int) + 24 ≤ ((s : Int) + 1) * 96 := by omega
      have h1 : 24 * (k : Int) + 24 ≤ (f.size : Int) := by have := HF.out; omega
      have h2 : 24 * k ≤ f.size := by have := HF.out; omega
      have h3 : 24 * k + 24 ≤ f.size := by have := HF.out; omega
      have BF2 : Aside (freeO f s = freeFrom f k (3 - i + 1)) := by
        show freeO f s = _
        have := BF.out
        rwa [show 4 - i = 3 - i + 1 by omega] at this
      clear hk BF
      by_cases hp : placeB f k = fullB 24
      · have q1 : ((f.extract (24 * k) (24 * k + 24)).toList == (fullB 24).toList) = true := eqs_t hp
        have hv := Lib.hid (free_hit BF2.out hp)
        clear hp
        go_wp2_with fail
        refine wld_lit (by kernel_rfl) (by kernel_rfl) ?_
        repeat (go_big_quiet_step (first | (go_at_call 49; with_reducible exact Wld.call (rp.out _)) | fail))
        refine wpQuiet_nil ?_; refine Wld.elim ?_; intro w' hb; have HB := bl_step (w := w) (by repeat (with_reducible first | exact HB | (refine bl_set ?_ (by omega)) | apply bl_alloc | apply bl_drew | apply bl_drewN | fail)) hb; have hzB := HB.size
        go_wp2_with fail
        go_ret3
        exact ⟨ret3 hv.out.symm, HB⟩
      · have q1 : ((f.extract (24 * k) (24 * k + 24)).toList == (fullB 24).toList) = false := eqs_f hp
        have hv := Lib.hid (free_miss BF2.out hp)
        clear hp
        go_wp2_with fail
        refine wld_lit (by kernel_rfl) (by kernel_rfl) ?_
        repeat (go_big_quiet_step (first | (go_at_call 49; with_reducible exact Wld.call (rp.out _)) | fail))
        refine wpQuiet_nil ?_; refine Wld.elim ?_; intro w' hb; have HB := bl_step (w := w) (by repeat (with_reducible first | exact HB | (refine bl_set ?_ (by omega)) | apply bl_alloc | apply bl_drew | apply bl_drewN | fail)) hb; have hzB := HB.size
        go_wp2_with fail
        go_roundg (4 - (i + 1))
        case measure => omega
        case rel => exact ⟨i + 1, k + 1, by omega, by omega, by have := HK.out; omega, (by show Value.int .i64 (24 * (k : Int) + 24) = _; exact vInt (by omega)), (by show freeO f s = _; rw [hv.out, show 4 - (i + 1) = 3 - i by omega]), HB⟩
    · obtain rfl : i = 4 := by omega
      have hv := Lib.hid (free_none (f := f) (s := s) (k := k) BF.out)
      have hl1 : ((s : Int) + 1) * 96 < 24 * (k : Int) + 24 := by omega
      clear hk
      go_wp2_with fail
      go_ret3
      exact ⟨ret3 hv.out.symm, HB⟩
end Go.Proofs.Ytimnhdmpfndeaaa.Jr
