/- Layer 3: the steps that program a text: what the program's and the references' Words answer. -/
import Derived.Test.YtimnhdmpfndeaaaPla
import Derived.Test.YtimnhdmpfndeaaaOps
namespace Go.Proofs.Ytimnhdmpfndeaaa.Pl
open Go.RowKit Go.Proofs.Ytimnhdmpfndeaaa.Kt Go.Proofs.Ytimnhdmpfndeaaa.Lw Go.Proofs.Ytimnhdmpfndeaaa.St Go.Proofs.Ytimnhdmpfndeaaa.Nm Go.Proofs.Ytimnhdmpfndeaaa.By Go.Proofs.Ytimnhdmpfndeaaa.En Go.Proofs.Ytimnhdmpfndeaaa.Jr Go.Proofs.Ytimnhdmpfndeaaa.Sl Go.Proofs.Ytimnhdmpfndeaaa.Gr Go.Proofs.Ytimnhdmpfndeaaa.Ops
set_option linter.unusedVariables false
set_option linter.unusedSimpArgs false
theorem not_empty {b : ByteArray} (h : 1 ≤ b.size) : b.toList.isEmpty = false := by
  cases hl : b.toList.isEmpty
  · rfl
  · exfalso
    have h2 : b.toList = [] := by simpa using hl
    have h3 := eqs b ByteArray.empty
    rw [h2, show ByteArray.empty.toList = [] by decide +kernel] at h3
    have h4 : b = ByteArray.empty := by simpa using h3.symm
    subst h4
    exact absurd h (by decide)
theorem is_nil {b : ByteArray} (h : b.size = 0) : b.toList.isEmpty = true := by
  have : b = ByteArray.empty := by
    apply ext_data
    have hz : b.data.toList.length = 0 := by rw [Array.length_toList]; exact h
    rw [List.eq_nil_of_length_eq_zero hz]
    rfl
  subst this
  decide +kernel
/-- the word i of a text, what it wants filled up. -/
def wordB (t : ByteArray) (i : Nat) : ByteArray := t.extract (4 * i) (4 * i + 4) ++ fullB (4 - (t.size - 4 * i))
def wordV (a : Int) (t : ByteArray) (i : Nat) : OpV := (false, a + 4 * (i : Int), wordB t i)
def wordsN (a : Int) (t : ByteArray) (n : Nat) : List OpV := (List.range n).map (wordV a t)
def wordsL (a : Int) (t : ByteArray) : List OpV := wordsN a t ((t.size + 3) / 4)
theorem wordsN_len (a : Int) (t : ByteArray) (n : Nat) : (wordsN a t n).length = n := by simp [wordsN]
theorem wordsN_succ (a : Int) (t : ByteArray) (n : Nat) : wordsN a t (n + 1) = wordsN a t n ++ [wordV a t n] := by simp [wordsN, List.range_succ]
theorem encOp_len (x : OpV) : (encOp x).length = 3 := rfl
theorem encOp_one (x : OpV) : ∀ u ∈ encOp x, u.oneCell' = true := by
  intro u hu
  simp [encOp] at hu
  rcases hu with rfl | rfl | rfl <;> rfl
theorem infoOp : (Try.prog.info? 50).map (fun i => (i.zero, i.size, i.bytes)) = some (some (.agg #[.bool false, .int .i64 0, .string ⟨#[]⟩]), 3, 32) := by kernel_rfl
def restB (t : ByteArray) (k : Nat) : ByteArray := t.extract (4 * k) t.size
theorem rest_size (t : ByteArray) (k : Nat) : (restB t k).size = t.size - 4 * k := by
  unfold restB
  rw [ByteArray.size_extract]
  omega
theorem rest_next (t : ByteArray) (k : Nat) (h : 4 * k + 4 ≤ t.size) : (restB t k).extract 4 (restB t k).size = restB t (k + 1) := by
  rw [rest_size]
  unfold restB
  rw [ByteArray.extract_extract]
  congr 1 <;> omega
theorem word_full (t : ByteArray) (k : Nat) (h : 4 * k + 4 ≤ t.size) : (restB t k).extract 0 4 ++ fullB 0 = wordB t k := by
  unfold restB wordB
  rw [ByteArray.extract_extract, show 4 - (t.size - 4 * k) = 0 by omega]
  congr 2
  omega
theorem rest_last (t : ByteArray) (k : Nat) (h : t.size ≤ 4 * k + 4) : restB t (k + 1) = ByteArray.empty := by
  have hz := rest_size t (k + 1)
  apply ext_data
  have hl : (restB t (k + 1)).data.toList.length = 0 := by rw [Array.length_toList]; show (restB t (k + 1)).size = 0; omega
  rw [List.eq_nil_of_length_eq_zero hl]
  rfl
theorem word_last (t : ByteArray) (k : Nat) (h : t.size < 4 * k + 4) (h2 : 4 * k < t.size) : restB t k ++ fullB (4 - (t.size - 4 * k)) = wordB t k := by
  unfold restB wordB
  congr 1
  apply ext_data
  simp
  omega
set_option maxRecDepth 100000 in
set_option maxHeartbeats 6400000 in
theorem words_c (a : Int) (t : ByteArray) (w : World) (a0 : 0 ≤ a) (a4 : a % 4 = 0) (ha : a + (t.size : Int) ≤ 768) :
    Calls Try.prog 39 #[.int .i64 a, .string t] w fun e w' => ∃ A c, e = .returned (.tuple #[.slice A ((t.size + 3) / 4) c, .int .i64 0]) ∧ w'.ownsRow w.heap.size 50 3 (.slice A ((t.size + 3) / 4) c) ((t.size + 3) / 4) ((wordsL a t).flatMap encOp) ∧ Below w.heap.size w w' := by
  obtain ⟨i0, hi, hz0, hz1, hz2⟩ := info_parts infoOp
  have a1 : a ≤ 768 := by omega
  have hm4 : (a % 4 != 0) = false := by simp [a4]
  have hts : (t.size : Int) ≤ 768 - a := by omega
  have A4 := Lib.hid a4
  clear a4
  go_enter Try.func39, Try.ntmps39
  go_wp2_with fail
  go_loopg [0, 1, 6, 7] ((t.size + 3) / 4) (fun gg s0 s1 s6 _ wr => ∃ (k : Nat) (A : Option Addr) (c : Nat), k ≤ (t.size + 3) / 4 ∧ (t.size + 3) / 4 - k ≤ gg ∧ s0 = .int .i64 (a + 4 * (k : Int)) ∧ s1 = .string (restB t k) ∧ s6 = .slice A k c ∧ Aside (wr.ownsRow w.heap.size 50 3 (.slice A k c) k ((wordsN a t k).flatMap encOp)) ∧ Aside (Below w.heap.size w wr))
  case atStart => exact ⟨0, none, 0, by omega, by omega, vInt (by omega), (by show Value.string t = _; simp [restB]), rfl, World.ownsRow_nil _ _ _ _, Below.refl _ _⟩
  case round =>
    obtain ⟨k, A, c, hk, hg, rfl, rfl, rfl, BO, BW⟩ := hrel
    have HB := BW.out
    have hsize := HB.size
    have hrs := rest_size t k
    by_cases hlt : 4 * k < t.size
    · have he : (restB t k).toList.isEmpty = false := not_empty (by omega)
      by_cases hf : 4 * k + 4 ≤ t.size
      · have RN := Lib.hid (rest_next t k hf)
        have WF := Lib.hid (word_full t k hf)
        have r4 : 4 ≤ (restB t k).size := by omega
        have r5 : (4 : Int) ≤ ((restB t k).size : Int) := by omega
        have HRS := Lib.hid hrs
        clear hrs
        have hmin : min ((restB t k).size : Int) 4 = 4 := by omega
        have hmin2 : min 4 (restB t k).size = 4 := by omega
        go_upto_region 7 with fail
        have RP := Lib.hid (fun W : World => repeat_c 0 W (by decide))
        rw [show ((0 : Nat) : Int) = 0 from rfl] at RP
        have hw4 : ((restB t k).extract 0 4).size = 4 := by rw [ByteArray.size_extract]; omega
        have hf0 := full_size 0
        generalize (restB t k).extract 0 4 = W4 at *
        generalize fullB 0 = Z at *
        go_upto_region 8 with (first | (go_at_call 64; with_reducible refine (RP.out _).mono ?_; rintro e w' ⟨rfl, hb⟩; have HB := bl_step (w := w) (by repeat (with_reducible first | exact HB | (refine bl_set ?_ (by omega)) | apply bl_alloc | apply bl_drew | apply bl_drewN | fail)) hb; have hzB := HB.size) | (at_builtin; refine wpList_append_own _ rfl _ _ 29 rfl w.heap.size 50 i0 (.agg #[.bool false, .int .i64 0, .string ⟨#[]⟩]) 3 32 Try.underlying29 hi hz0 hz1 hz2 rfl (by decide) _ _ _ rfl ((own_below BO.out hb).alloc _) ⟨w'.heap.size, 0, none⟩ 1 1 [.bool false, .int .i64 (a + 4 * (k : Int)), .string (W4 ++ Z)] rfl rfl (cells_new _ _ _) (fun x hx => by simp at hx; rcases hx with rfl | rfl | rfl <;> rfl) (by unfold maxLen; omega) (by omega) (by have := HB.size; simp; omega) ?_; intro v' w3 hown' hgrow3 hnil3) | fail)
        obtain ⟨⟨g3, cv', rfl, hcv⟩, hb3⟩ := row_stepz (by decide) (own_below BO.out hb) hown' hgrow3 HB
        have hfl : (wordsN a t (k + 1)).flatMap encOp = (wordsN a t k).flatMap encOp ++ [.bool false, .int .i64 (a + 4 * (k : Int)), .string (W4 ++ Z)] := by rw [wordsN_succ, List.flatMap_append, List.flatMap_singleton, WF.out]; rfl
        rw [← hfl] at hown'
        clear hfl
        go_wp2_with fail
        go_roundg ((t.size + 3) / 4 - (k + 1))
        case measure => omega
        case rel => exact ⟨k + 1, _, cv', by omega, by omega, (by show Value.int .i64 (a + 4 * (k : Int) + 4) = _; exact vInt (by omega)), (by rw [← RN.out]), rfl, hown', hb3⟩
      · have RN := Lib.hid (rest_last t k (by omega))
        have WF := Lib.hid (word_last t k (by omega) (by omega))
        have hmin : min ((restB t k).size : Int) 4 = ((restB t k).size : Int) := by omega
        have hr4 : (restB t k).size ≤ 4 := by omega
        have RP := Lib.hid (fun W : World => repeat_c (4 - (t.size - 4 * k)) W (by omega))
        rw [show ((4 - (t.size - 4 * k) : Nat) : Int) = 4 - ((restB t k).size : Int) by omega] at RP
        have hf0 := full_size (4 - (t.size - 4 * k))
        have hf1 : (fullB (4 - (t.size - 4 * k))).size ≤ 4 := by omega
        clear hrs hf0
        generalize fullB (4 - (t.size - 4 * k)) = Z at *
        have hq : (9223372036854775807 < (restB t k).size + Z.size) = False := by simp; omega
        go_upto_region 7 with fail
        go_upto_region 8 with (first | (go_at_call 64; with_reducible refine (RP.out _).mono ?_; rintro e w' ⟨rfl, hb⟩; have HB := bl_step (w := w) (by repeat (with_reducible first | exact HB | (refine bl_set ?_ (by omega)) | apply bl_alloc | apply bl_drew | apply bl_drewN | fail)) hb; have hzB := HB.size) | (at_builtin; refine wpList_append_own _ rfl _ _ 29 rfl w.heap.size 50 i0 (.agg #[.bool false, .int .i64 0, .string ⟨#[]⟩]) 3 32 Try.underlying29 hi hz0 hz1 hz2 rfl (by decide) _ _ _ rfl ((own_below BO.out hb).alloc _) ⟨w'.heap.size, 0, none⟩ 1 1 [.bool false, .int .i64 (a + 4 * (k : Int)), .string (restB t k ++ Z)] rfl rfl (cells_new _ _ _) (fun x hx => by simp at hx; rcases hx with rfl | rfl | rfl <;> rfl) (by unfold maxLen; omega) (by omega) (by have := HB.size; simp; omega) ?_; intro v' w3 hown' hgrow3 hnil3) | fail)
        obtain ⟨⟨g3, cv', rfl, hcv⟩, hb3⟩ := row_stepz (by decide) (own_below BO.out hb) hown' hgrow3 HB
        have hfl : (wordsN a t (k + 1)).flatMap encOp = (wordsN a t k).flatMap encOp ++ [.bool false, .int .i64 (a + 4 * (k : Int)), .string (restB t k ++ Z)] := by rw [wordsN_succ, List.flatMap_append, List.flatMap_singleton, WF.out]; rfl
        rw [← hfl] at hown'
        clear hfl
        go_wp2_with fail
        go_roundg ((t.size + 3) / 4 - (k + 1))
        case measure => omega
        case rel => exact ⟨k + 1, _, cv', by omega, by omega, (by show Value.int .i64 (a + 4 * (k : Int) + 4) = _; exact vInt (by omega)), (by rw [RN.out]), rfl, hown', hb3⟩
    · obtain rfl : k = (t.size + 3) / 4 := by omega
      have he : (restB t ((t.size + 3) / 4)).toList.isEmpty = true := is_nil (by omega)
      have hown := BO.out
      clear hrs
      go_wp2_with fail
      go_ret2
      exact ⟨A, c, rfl, hown, HB⟩
end Go.Proofs.Ytimnhdmpfndeaaa.Pl
