/- Layer 3: the references' Words. -/
import Derived.Test.YtimnhdmpfndeaaaPlb
namespace Go.Proofs.Ytimnhdmpfndeaaa.Pl
open Go.RowKit Go.Proofs.Ytimnhdmpfndeaaa.Kt Go.Proofs.Ytimnhdmpfndeaaa.Lw Go.Proofs.Ytimnhdmpfndeaaa.St Go.Proofs.Ytimnhdmpfndeaaa.Nm Go.Proofs.Ytimnhdmpfndeaaa.By Go.Proofs.Ytimnhdmpfndeaaa.En Go.Proofs.Ytimnhdmpfndeaaa.Jr Go.Proofs.Ytimnhdmpfndeaaa.Sl Go.Proofs.Ytimnhdmpfndeaaa.Gr Go.Proofs.Ytimnhdmpfndeaaa.Ops
set_option linter.unusedVariables false
set_option linter.unusedSimpArgs false
def padB (t : ByteArray) : ByteArray := t ++ fullB ((4 - t.size % 4) % 4)
theorem pad_size (t : ByteArray) : (padB t).size = 4 * ((t.size + 3) / 4) := by
  unfold padB
  rw [ByteArray.size_append, full_size]
  omega
theorem pad_word (t : ByteArray) (k : Nat) (h : k < (t.size + 3) / 4) : (padB t).extract (4 * k) (4 * k + 4) = wordB t k := by
  unfold padB wordB
  by_cases hf : 4 * k + 4 ≤ t.size
  · rw [show 4 - (t.size - 4 * k) = 0 by omega]
    apply ext_data
    have hl : t.data.toList.length = t.size := by rw [Array.length_toList]; rfl
    simp only [ByteArray.data_extract, ByteArray.data_append, Array.toList_extract, Array.toList_append, List.extract, fullB, List.replicate_zero]
    rw [List.drop_append_of_le_length (by omega), List.take_append_of_le_length (by rw [List.length_drop]; omega)]
    simp
  · have e : (4 - t.size % 4) % 4 = 4 - (t.size - 4 * k) := by omega
    rw [e]
    apply ext_data
    have hl : t.data.toList.length = t.size := by rw [Array.length_toList]; rfl
    simp only [ByteArray.data_extract, ByteArray.data_append, Array.toList_extract, Array.toList_append, List.extract, fullB]
    rw [List.drop_append_of_le_length (by omega), List.take_append]
    simp only [List.length_drop, hl, List.take_replicate, List.toList_toArray]
    congr 2
    omega
set_option maxRecDepth 100000 in
set_option maxHeartbeats 6400000 in
theorem rwords_c (a : Int) (t : ByteArray) (w : World) (a0 : 0 ≤ a) (a4 : a % 4 = 0) (ha : a + (t.size : Int) ≤ 768) :
    Calls Try.prog 41 #[.int .i64 a, .string t] w fun e w' => ∃ A c, e = .returned (.tuple #[.slice A ((t.size + 3) / 4) c, .int .i64 0]) ∧ w'.ownsRow w.heap.size 50 3 (.slice A ((t.size + 3) / 4) c) ((t.size + 3) / 4) ((wordsL a t).flatMap encOp) ∧ Below w.heap.size w w' := by
  obtain ⟨i0, hi, hz0, hz1, hz2⟩ := info_parts infoOp
  have a1 : a ≤ 768 := by omega
  have HB := Below.refl w.heap.size w
  have hm4 : (a % 4 != 0) = false := by simp [a4]
  have hts : (t.size : Int) ≤ 768 - a := by omega
  have uu := Lib.hid (fun W : World => upTo_c a 0 768 W)
  rw [show rngB a 0 768 = true by simp [rngB]; omega] at uu
  have fl := Lib.hid (fun W : World => rfull_c ((4 - t.size % 4) % 4) (by omega) W)
  have hcc : -((t.size : Int) % 4) % 4 = (((4 - t.size % 4) % 4 : Nat) : Int) := by omega
  rw [← hcc] at fl
  clear hcc
  have hz := pad_size t
  have hfz := full_size ((4 - t.size % 4) % 4)
  have hfz4 : (fullB ((4 - t.size % 4) % 4)).size ≤ 4 := by omega
  have hp : t ++ fullB ((4 - t.size % 4) % 4) = padB t := rfl
  clear a4 hfz
  generalize fullB ((4 - t.size % 4) % 4) = Z at *
  have hq : (9223372036854775807 < t.size + Z.size) = False := by simp; omega
  go_enter Try.func41, Try.ntmps41
  go_wp2_with (first | (go_at_call 44; with_reducible refine (uu.out _).mono ?_; rintro e w' ⟨rfl, rfl⟩) | (go_at_call 49; with_reducible refine (fl.out _).mono ?_; rintro e w' ⟨rfl, hb⟩; have HB := bl_step (w := w) (by repeat (with_reducible first | exact HB | (refine bl_set ?_ (by omega)) | apply bl_alloc | apply bl_drew | apply bl_drewN | fail)) hb; have hzB := HB.size) | fail)
  have PW := Lib.hid (fun k (h : k < (t.size + 3) / 4) => pad_word t k h)
  have HZ := Lib.hid hz
  have hpz : (padB t).size ≤ 1000 := by omega
  generalize padB t = P at *
  clear hp hz hq fl uu hb hzB
  go_loopg [7, 8] ((t.size + 3) / 4) (fun gg s7 s8 wr => ∃ (k : Nat) (A : Option Addr) (c : Nat), k ≤ (t.size + 3) / 4 ∧ (t.size + 3) / 4 - k ≤ gg ∧ s8 = .int .i64 (4 * (k : Int)) ∧ s7 = .slice A k c ∧ Aside (wr.ownsRow w.heap.size 50 3 (.slice A k c) k ((wordsN a t k).flatMap encOp)) ∧ Aside (Below w.heap.size w wr))
  case atStart => exact ⟨0, none, 0, by omega, by omega, vInt (by omega), rfl, World.ownsRow_nil _ _ _ _, HB⟩
  case round =>
    clear HB
    obtain ⟨k, A, c, hk, hg, rfl, rfl, BO, BW⟩ := hrel
    have HB := BW.out
    have hsize := HB.size
    by_cases hlt : k < (t.size + 3) / 4
    · have h1 : 4 * (k : Int) < (P.size : Int) := by have := HZ.out; omega
      have h2 : 4 * (k : Int) + 4 ≤ (P.size : Int) := by have := HZ.out; omega
      have h3 : 4 * k ≤ P.size := by have := HZ.out; omega
      have h4 : 4 * k + 4 ≤ P.size := by have := HZ.out; omega
      go_upto_region 7 with (first | (at_builtin; refine wpList_append_own _ rfl _ _ 29 rfl w.heap.size 50 i0 (.agg #[.bool false, .int .i64 0, .string ⟨#[]⟩]) 3 32 Try.underlying29 hi hz0 hz1 hz2 rfl (by decide) _ _ _ rfl (BO.out.alloc _) ⟨wr.heap.size, 0, none⟩ 1 1 [.bool false, .int .i64 (a + 4 * (k : Int)), .string (P.extract (4 * k) (4 * k + 4))] rfl rfl (cells_new _ _ _) (fun x hx => by simp at hx; rcases hx with rfl | rfl | rfl <;> rfl) (by unfold maxLen; omega) (by omega) (by have := HB.size; simp; omega) ?_; intro v' w3 hown' hgrow3 hnil3) | fail)
      obtain ⟨⟨g3, cv', rfl, hcv⟩, hb3⟩ := row_stepz (by decide) BO.out hown' hgrow3 HB
      have hfl : (wordsN a t (k + 1)).flatMap encOp = (wordsN a t k).flatMap encOp ++ [.bool false, .int .i64 (a + 4 * (k : Int)), .string (P.extract (4 * k) (4 * k + 4))] := by rw [wordsN_succ, List.flatMap_append, List.flatMap_singleton, PW.out k hlt]; rfl
      rw [← hfl] at hown'
      clear hfl
      go_wp2_with fail
      go_roundg ((t.size + 3) / 4 - (k + 1))
      case measure => omega
      case rel => exact ⟨k + 1, _, cv', by omega, by omega, (by show Value.int .i64 (4 * (k : Int) + 4) = _; exact vInt (by omega)), rfl, hown', hb3⟩
    · obtain rfl : k = (t.size + 3) / 4 := by omega
      have h1 : (P.size : Int) ≤ 4 * (((t.size + 3) / 4 : Nat) : Int) := by have := HZ.out; omega
      have hown := BO.out
      go_wp2_with fail
      go_ret2
      exact ⟨A, c, rfl, hown, HB⟩
end Go.Proofs.Ytimnhdmpfndeaaa.Pl
