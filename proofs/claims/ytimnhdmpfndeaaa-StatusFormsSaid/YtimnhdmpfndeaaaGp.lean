/- Texts laid as one: Pla Plb Plc Pld Ple Plf Plg Fla Flb Flc. -/
import Derived.Test.YtimnhdmpfndeaaaGc
import Derived.Test.YtimnhdmpfndeaaaGb
import Derived.Test.YtimnhdmpfndeaaaGk
import Derived.RegionTactic
import Derived.BigRegion
/- Layer 8: the number of the next record: what the program's and the references' functions answer. -/
section
namespace Go.Proofs.Ytimnhdmpfndeaaa.Pl
open Go.RowKit Go.Proofs.Ytimnhdmpfndeaaa.Kt Go.Proofs.Ytimnhdmpfndeaaa.Lw Go.Proofs.Ytimnhdmpfndeaaa.St Go.Proofs.Ytimnhdmpfndeaaa.Nm Go.Proofs.Ytimnhdmpfndeaaa.By Go.Proofs.Ytimnhdmpfndeaaa.En Go.Proofs.Ytimnhdmpfndeaaa.Jr Go.Proofs.Ytimnhdmpfndeaaa.Im Go.Proofs.Ytimnhdmpfndeaaa.Sl Go.Proofs.Ytimnhdmpfndeaaa.Ch
set_option linter.unusedVariables false
set_option linter.unusedSimpArgs false
attribute [local irreducible] gotB goodB Cr.crcB nQ nS nZ nM placeB
/-- the greatest number of some records. -/
def maxL (l : List PlV) : Int := l.foldl (fun a p => max a p.q) 0
theorem max_snoc (l : List PlV) (p : PlV) : maxL (l ++ [p]) = max (maxL l) p.q := by simp only [maxL, List.foldl_append, List.foldl_cons, List.foldl_nil]
theorem max_next {l : List PlV} {k : Nat} {x : PlV} (h : l[k]? = some x) : maxL (l.take (k + 1)) = max (maxL (l.take k)) x.q := by
  rw [List.take_add_one, h]
  exact max_snoc _ _
theorem max_bd {f : ByteArray} : ∀ k, 0 ≤ maxL ((scanL f).take k) ∧ maxL ((scanL f).take k) ≤ 1048576
  | 0 => by simp [maxL]
  | k + 1 => by
    have ih := max_bd (f := f) k
    cases hx : (scanL f)[k]? with
    | none =>
      rw [List.take_add_one, hx]
      simpa using ih
    | some x =>
      have hq := may_parts (scan_ok (List.mem_of_getElem? hx)).may
      rw [max_next hx]
      omega
def nextV (f : ByteArray) : Array Value := if f.size = 768 then (if maxL (scanL f) = 1048576 then #[.int .i64 0, .int .i64 801] else #[.int .i64 (maxL (scanL f) + 1), .int .i64 0]) else #[.int .i64 0, .int .i64 800]
theorem next_full {f : ByteArray} (hf : f.size = 768) (h : maxL (scanL f) = 1048576) : nextV f = #[.int .i64 0, .int .i64 801] := by simp [nextV, hf, h]
theorem next_one {f : ByteArray} (hf : f.size = 768) (h : ¬ maxL (scanL f) = 1048576) : nextV f = #[.int .i64 (maxL (scanL f) + 1), .int .i64 0] := by simp [nextV, hf, h]
theorem next_form {f : ByteArray} (hf : ¬ f.size = 768) : nextV f = #[.int .i64 0, .int .i64 800] := by simp [nextV, hf]
theorem ret2 {a b : Array Value} (h : a = b) : Ending.returned (.tuple a) = Ending.returned (.tuple b) := by rw [h]
set_option maxRecDepth 100000 in
set_option maxHeartbeats 6400000 in
theorem next_c (f : ByteArray) (w : World) (h : f.size ≤ 9223372036854775807) : Calls Try.prog 10 #[.string f] w fun e w' => e = .returned (.tuple (nextV f)) ∧ Below w.heap.size w w' := by
  have HB := Below.refl w.heap.size w
  by_cases hf : f.size = 768
  · have sc := Lib.hid (fun W : World => scan_yes f W hf)
    have HF := Lib.hid hf
    clear hf
    go_enter Try.func10, Try.ntmps10
    go_wp2_with (first | (go_at_call 32; (with_reducible refine (sc.out _).mono ?_); rintro e w' ⟨A, c, rfl, hown, hb⟩; have HB := bl_step HB hb) | fail)
    have hln : (scanL f).length ≤ 8 := scanN_le f 8
    have LL := Lib.hid (lies_own encP_len hown rfl)
    clear hown
    obtain ⟨n, hn⟩ : ∃ n, (scanL f).length = n := ⟨_, rfl⟩
    rw [hn] at hln ⊢
    have HN := Lib.hid hn
    clear hn hb sc
    go_loopg [6, 8, 18] n (fun gg s6 _ s18 wr => ∃ (k : Nat) (m : Int), k ≤ n ∧ n - k ≤ gg ∧ s18 = .int .i64 k ∧ s6 = .int .i64 m ∧ 0 ≤ m ∧ m ≤ 1048576 ∧ Aside (m = maxL ((scanL f).take k)) ∧ Aside (Below w.heap.size w wr) ∧ Aside (Lies encP 5 wr A (scanL f)))
    case atStart => exact ⟨0, 0, by omega, by omega, rfl, rfl, by omega, by omega, (by show (0 : Int) = _; simp [maxL]), HB, LL.out⟩
    case round =>
      clear HB LL
      obtain ⟨k, m, hk, hg, rfl, rfl, hm0, hm1, BM, BW, BL⟩ := hrel
      have HB := BW.out
      by_cases hlt : k < n
      · obtain ⟨ab, off, x, rfl, hbs, hx, c0, c1, c2, c3, c4⟩ := lies_at BL.out (j := k) (by have := HN.out; omega)
        have hq := may_parts (scan_ok (List.mem_of_getElem? hx)).may
        obtain ⟨⟨hq1, hq2⟩, _⟩ := hq
        have MX := Lib.hid (max_next hx)
        have hki : (k : Int) < (n : Int) := by omega
        clear hx
        go_wp2_with fail
        go_roundg (n - (k + 1))
        case measure => omega
        case rel => exact ⟨k + 1, max m x.q, by omega, by omega, by go_num, rfl, by omega, by omega, (by show max m x.q = _; rw [MX.out, ← BM.out]), bl_alloc HB _, BL.out.alloc _⟩
      · obtain rfl : k = n := by omega
        have hall : (scanL f).take k = scanL f := List.take_of_length_le (by have := HN.out; omega)
        have hmm : m = maxL (scanL f) := by rw [← hall]; exact BM.out
        clear hall BM
        by_cases hfu : m = 1048576
        · have hv := Lib.hid (next_full HF.out (by rw [← hmm]; exact hfu))
          have hge : (1048576 : Int) ≤ m := by omega
          clear hmm hfu
          go_wp2_with fail
          go_ret2
          exact ⟨ret2 hv.out.symm, HB⟩
        · have hv := Lib.hid (next_one HF.out (by rw [← hmm]; exact hfu))
          rw [← hmm] at hv
          have hlt2 : m < 1048576 := by omega
          clear hmm hfu
          go_wp2_with fail
          go_ret2
          exact ⟨ret2 hv.out.symm, HB⟩
  · have sc := Lib.hid (fun W : World => scan_no f W h hf)
    have hv := Lib.hid (next_form hf)
    clear hf
    go_enter Try.func10, Try.ntmps10
    go_wp2_with (first | (go_at_call 32; with_reducible refine (sc.out _).mono ?_; rintro e w' ⟨rfl, rfl⟩) | fail)
    go_ret2
    exact ⟨ret2 hv.out.symm, HB⟩
set_option maxRecDepth 100000 in
set_option maxHeartbeats 6400000 in
theorem rnext_c (f : ByteArray) (w : World) (h : f.size ≤ 9223372036854775807) : Calls Try.prog 11 #[.string f] w fun e w' => e = .returned (.tuple (nextV f)) ∧ Below w.heap.size w w' := by
  have HB := Below.refl w.heap.size w
  by_cases hf : f.size = 768
  · have sc := Lib.hid (fun W : World => rscan_yes f W hf)
    have HF := Lib.hid hf
    clear hf
    go_enter Try.func11, Try.ntmps11
    go_wp2_with (first | (go_at_call 33; (with_reducible refine (sc.out _).mono ?_); rintro e w' ⟨A, c, rfl, hown, hb⟩; have HB := bl_step HB hb) | fail)
    have hln : (scanL f).length ≤ 8 := scanN_le f 8
    have LL := Lib.hid (lies_own encP_len hown rfl)
    clear hown
    obtain ⟨n, hn⟩ : ∃ n, (scanL f).length = n := ⟨_, rfl⟩
    rw [hn] at hln ⊢
    have HN := Lib.hid hn
    clear hn hb sc
    go_loopg [6, 7] n (fun gg s6 s7 wr => ∃ (k : Nat) (m : Int), k ≤ n ∧ n - k ≤ gg ∧ s7 = .int .i64 k ∧ s6 = .int .i64 m ∧ 0 ≤ m ∧ m ≤ 1048576 ∧ Aside (m = maxL ((scanL f).take k)) ∧ Aside (Below w.heap.size w wr) ∧ Aside (Lies encP 5 wr A (scanL f)))
    case atStart => exact ⟨0, 0, by omega, by omega, rfl, rfl, by omega, by omega, (by show (0 : Int) = _; simp [maxL]), HB, LL.out⟩
    case round =>
      clear HB LL
      obtain ⟨k, m, hk, hg, rfl, rfl, hm0, hm1, BM, BW, BL⟩ := hrel
      have HB := BW.out
      by_cases hlt : k < n
      · obtain ⟨ab, off, x, rfl, hbs, hx, c0, c1, c2, c3, c4⟩ := lies_at BL.out (j := k) (by have := HN.out; omega)
        have hq := may_parts (scan_ok (List.mem_of_getElem? hx)).may
        obtain ⟨⟨hq1, hq2⟩, _⟩ := hq
        have MX := Lib.hid (max_next hx)
        have hki : (k : Int) < (n : Int) := by omega
        clear hx
        go_wp2_with fail
        go_roundg (n - (k + 1))
        case measure => omega
        case rel => exact ⟨k + 1, max m x.q, by omega, by omega, by go_num, rfl, by omega, by omega, (by show max m x.q = _; rw [MX.out, ← BM.out]), HB, BL.out⟩
      · obtain rfl : k = n := by omega
        have hall : (scanL f).take k = scanL f := List.take_of_length_le (by have := HN.out; omega)
        have hmm : m = maxL (scanL f) := by rw [← hall]; exact BM.out
        clear hall BM
        by_cases hfu : m = 1048576
        · have hv := Lib.hid (next_full HF.out (by rw [← hmm]; exact hfu))
          have hge : (m == 1048576) = true := by simp [hfu]
          clear hmm hfu
          go_wp2_with fail
          go_ret2
          exact ⟨ret2 hv.out.symm, HB⟩
        · have hv := Lib.hid (next_one HF.out (by rw [← hmm]; exact hfu))
          rw [← hmm] at hv
          have hge : (m == 1048576) = false := by simp [hfu]
          clear hmm hfu
          go_wp2_with fail
          go_ret2
          exact ⟨ret2 hv.out.symm, HB⟩
  · have sc := Lib.hid (fun W : World => rscan_no f W h hf)
    have hv := Lib.hid (next_form hf)
    clear hf
    go_enter Try.func11, Try.ntmps11
    go_wp2_with (first | (go_at_call 33; with_reducible refine (sc.out _).mono ?_; rintro e w' ⟨rfl, rfl⟩) | fail)
    go_ret2
    exact ⟨ret2 hv.out.symm, HB⟩
end Go.Proofs.Ytimnhdmpfndeaaa.Pl
end
/- Layer 3: the steps that program a text: what the program's and the references' Words answer. -/
section
namespace Go.Proofs.Ytimnhdmpfndeaaa.Pl
open Go.RowKit Go.Proofs.Ytimnhdmpfndeaaa.Kt Go.Proofs.Ytimnhdmpfndeaaa.Lw Go.Proofs.Ytimnhdmpfndeaaa.St Go.Proofs.Ytimnhdmpfndeaaa.Nm Go.Proofs.Ytimnhdmpfndeaaa.By Go.Proofs.Ytimnhdmpfndeaaa.En Go.Proofs.Ytimnhdmpfndeaaa.Jr Go.Proofs.Ytimnhdmpfndeaaa.Sl Go.Proofs.Ytimnhdmpfndeaaa.Gr Go.Proofs.Ytimnhdmpfndeaaa.Ops
set_option linter.unusedVariables false
set_option linter.unusedSimpArgs false
theorem not_empty {b : ByteArray} (h : 1 ≤ b.size) : b.toList.isEmpty = false := by
  cases hl : b.toList.isEmpty
  · rfl
  · exfalso
    have h2 : b.toList = [] := by simpa using hl
    have h3 := eqs b ByteArray.empty
    rw [h2, show ByteArray.empty.toList = [] by decide +kernel] at h3
    have h4 : b = ByteArray.empty := by simpa using h3.symm
    subst h4
    exact absurd h (by decide)
theorem is_nil {b : ByteArray} (h : b.size = 0) : b.toList.isEmpty = true := by
  have : b = ByteArray.empty := by
    apply ext_data
    have hz : b.data.toList.length = 0 := by rw [Array.length_toList]; exact h
    rw [List.eq_nil_of_length_eq_zero hz]
    rfl
  subst this
  decide +kernel
/-- the word i of a text, what it wants filled up. -/
def wordB (t : ByteArray) (i : Nat) : ByteArray := t.extract (4 * i) (4 * i + 4) ++ fullB (4 - (t.size - 4 * i))
def wordV (a : Int) (t : ByteArray) (i : Nat) : OpV := (false, a + 4 * (i : Int), wordB t i)
def wordsN (a : Int) (t : ByteArray) (n : Nat) : List OpV := (List.range n).map (wordV a t)
def wordsL (a : Int) (t : ByteArray) : List OpV := wordsN a t ((t.size + 3) / 4)
theorem wordsN_len (a : Int) (t : ByteArray) (n : Nat) : (wordsN a t n).length = n := by simp [wordsN]
theorem wordsN_succ (a : Int) (t : ByteArray) (n : Nat) : wordsN a t (n + 1) = wordsN a t n ++ [wordV a t n] := by simp [wordsN, List.range_succ]
theorem encOp_len (x : OpV) : (encOp x).length = 3 := rfl
theorem encOp_one (x : OpV) : ∀ u ∈ encOp x, u.oneCell' = true := by
  intro u hu
  simp [encOp] at hu
  rcases hu with rfl | rfl | rfl <;> rfl
theorem infoOp : (Try.prog.info? 50).map (fun i => (i.zero, i.size, i.bytes)) = some (some (.agg #[.bool false, .int .i64 0, .string ⟨#[]⟩]), 3, 32) := by kernel_rfl
def restB (t : ByteArray) (k : Nat) : ByteArray := t.extract (4 * k) t.size
theorem rest_size (t : ByteArray) (k : Nat) : (restB t k).size = t.size - 4 * k := by
  unfold restB
  rw [ByteArray.size_extract]
  omega
theorem rest_next (t : ByteArray) (k : Nat) (h : 4 * k + 4 ≤ t.size) : (restB t k).extract 4 (restB t k).size = restB t (k + 1) := by
  rw [rest_size]
  unfold restB
  rw [ByteArray.extract_extract]
  congr 1 <;> omega
theorem word_full (t : ByteArray) (k : Nat) (h : 4 * k + 4 ≤ t.size) : (restB t k).extract 0 4 ++ fullB 0 = wordB t k := by
  unfold restB wordB
  rw [ByteArray.extract_extract, show 4 - (t.size - 4 * k) = 0 by omega]
  congr 2
  omega
theorem rest_last (t : ByteArray) (k : Nat) (h : t.size ≤ 4 * k + 4) : restB t (k + 1) = ByteArray.empty := by
  have hz := rest_size t (k + 1)
  apply ext_data
  have hl : (restB t (k + 1)).data.toList.length = 0 := by rw [Array.length_toList]; show (restB t (k + 1)).size = 0; omega
  rw [List.eq_nil_of_length_eq_zero hl]
  rfl
theorem word_last (t : ByteArray) (k : Nat) (h : t.size < 4 * k + 4) (h2 : 4 * k < t.size) : restB t k ++ fullB (4 - (t.size - 4 * k)) = wordB t k := by
  unfold restB wordB
  congr 1
  apply ext_data
  simp
  omega
set_option maxRecDepth 100000 in
set_option maxHeartbeats 6400000 in
theorem words_c (a : Int) (t : ByteArray) (w : World) (a0 : 0 ≤ a) (a4 : a % 4 = 0) (ha : a + (t.size : Int) ≤ 768) :
    Calls Try.prog 39 #[.int .i64 a, .string t] w fun e w' => ∃ A c, e = .returned (.tuple #[.slice A ((t.size + 3) / 4) c, .int .i64 0]) ∧ w'.ownsRow w.heap.size 50 3 (.slice A ((t.size + 3) / 4) c) ((t.size + 3) / 4) ((wordsL a t).flatMap encOp) ∧ Below w.heap.size w w' := by
  obtain ⟨i0, hi, hz0, hz1, hz2⟩ := info_parts infoOp
  have a1 : a ≤ 768 := by omega
  have hm4 : (a % 4 != 0) = false := by simp [a4]
  have hts : (t.size : Int) ≤ 768 - a := by omega
  have A4 := Lib.hid a4
  clear a4
  go_enter Try.func39, Try.ntmps39
  go_wp2_with fail
  go_loopg [0, 1, 6, 7] ((t.size + 3) / 4) (fun gg s0 s1 s6 _ wr => ∃ (k : Nat) (A : Option Addr) (c : Nat), k ≤ (t.size + 3) / 4 ∧ (t.size + 3) / 4 - k ≤ gg ∧ s0 = .int .i64 (a + 4 * (k : Int)) ∧ s1 = .string (restB t k) ∧ s6 = .slice A k c ∧ Aside (wr.ownsRow w.heap.size 50 3 (.slice A k c) k ((wordsN a t k).flatMap encOp)) ∧ Aside (Below w.heap.size w wr))
  case atStart => exact ⟨0, none, 0, by omega, by omega, vInt (by omega), (by show Value.string t = _; simp [restB]), rfl, World.ownsRow_nil _ _ _ _, Below.refl _ _⟩
  case round =>
    obtain ⟨k, A, c, hk, hg, rfl, rfl, rfl, BO, BW⟩ := hrel
    have HB := BW.out
    have hsize := HB.size
    have hrs := rest_size t k
    by_cases hlt : 4 * k < t.size
    · have he : (restB t k).toList.isEmpty = false := not_empty (by omega)
      by_cases hf : 4 * k + 4 ≤ t.size
      · have RN := Lib.hid (rest_next t k hf)
        have WF := Lib.hid (word_full t k hf)
        have r4 : 4 ≤ (restB t k).size := by omega
        have r5 : (4 : Int) ≤ ((restB t k).size : Int) := by omega
        have HRS := Lib.hid hrs
        clear hrs
        have hmin : min ((restB t k).size : Int) 4 = 4 := by omega
        have hmin2 : min 4 (restB t k).size = 4 := by omega
        go_upto_region 7 with fail
        have RP := Lib.hid (fun W : World => repeat_c 0 W (by decide))
        rw [show ((0 : Nat) : Int) = 0 from rfl] at RP
        have hw4 : ((restB t k).extract 0 4).size = 4 := by rw [ByteArray.size_extract]; omega
        have hf0 := full_size 0
        generalize (restB t k).extract 0 4 = W4 at *
        generalize fullB 0 = Z at *
        go_upto_region 8 with (first | (go_at_call 64; with_reducible refine (RP.out _).mono ?_; rintro e w' ⟨rfl, hb⟩; have HB := bl_step (w := w) (by repeat (with_reducible first | exact HB | (refine bl_set ?_ (by omega)) | apply bl_alloc | apply bl_drew | apply bl_drewN | fail)) hb; have hzB := HB.size) | (at_builtin; refine wpList_append_own _ rfl _ _ 29 rfl w.heap.size 50 i0 (.agg #[.bool false, .int .i64 0, .string ⟨#[]⟩]) 3 32 Try.underlying29 hi hz0 hz1 hz2 rfl (by decide) _ _ _ rfl ((own_below BO.out hb).alloc _) ⟨w'.heap.size, 0, none⟩ 1 1 [.bool false, .int .i64 (a + 4 * (k : Int)), .string (W4 ++ Z)] rfl rfl (cells_new _ _ _) (fun x hx => by simp at hx; rcases hx with rfl | rfl | rfl <;> rfl) (by unfold maxLen; omega) (by omega) (by have := HB.size; simp; omega) ?_; intro v' w3 hown' hgrow3 hnil3) | fail)
        obtain ⟨⟨g3, cv', rfl, hcv⟩, hb3⟩ := row_stepz (by decide) (own_below BO.out hb) hown' hgrow3 HB
        have hfl : (wordsN a t (k + 1)).flatMap encOp = (wordsN a t k).flatMap encOp ++ [.bool false, .int .i64 (a + 4 * (k : Int)), .string (W4 ++ Z)] := by rw [wordsN_succ, List.flatMap_append, List.flatMap_singleton, WF.out]; rfl
        rw [← hfl] at hown'
        clear hfl
        go_wp2_with fail
        go_roundg ((t.size + 3) / 4 - (k + 1))
        case measure => omega
        case rel => exact ⟨k + 1, _, cv', by omega, by omega, (by show Value.int .i64 (a + 4 * (k : Int) + 4) = _; exact vInt (by omega)), (by rw [← RN.out]), rfl, hown', hb3⟩
      · have RN := Lib.hid (rest_last t k (by omega))
        have WF := Lib.hid (word_last t k (by omega) (by omega))
        have hmin : min ((restB t k).size : Int) 4 = ((restB t k).size : Int) := by omega
        have hr4 : (restB t k).size ≤ 4 := by omega
        have RP := Lib.hid (fun W : World => repeat_c (4 - (t.size - 4 * k)) W (by omega))
        rw [show ((4 - (t.size - 4 * k) : Nat) : Int) = 4 - ((restB t k).size : Int) by omega] at RP
        have hf0 := full_size (4 - (t.size - 4 * k))
        have hf1 : (fullB (4 - (t.size - 4 * k))).size ≤ 4 := by omega
        clear hrs hf0
        generalize fullB (4 - (t.size - 4 * k)) = Z at *
        have hq : (9223372036854775807 < (restB t k).size + Z.size) = False := by simp; omega
        go_upto_region 7 with fail
        go_upto_region 8 with (first | (go_at_call 64; with_reducible refine (RP.out _).mono ?_; rintro e w' ⟨rfl, hb⟩; have HB := bl_step (w := w) (by repeat (with_reducible first | exact HB | (refine bl_set ?_ (by omega)) | apply bl_alloc | apply bl_drew | apply bl_drewN | fail)) hb; have hzB := HB.size) | (at_builtin; refine wpList_append_own _ rfl _ _ 29 rfl w.heap.size 50 i0 (.agg #[.bool false, .int .i64 0, .string ⟨#[]⟩]) 3 32 Try.underlying29 hi hz0 hz1 hz2 rfl (by decide) _ _ _ rfl ((own_below BO.out hb).alloc _) ⟨w'.heap.size, 0, none⟩ 1 1 [.bool false, .int .i64 (a + 4 * (k : Int)), .string (restB t k ++ Z)] rfl rfl (cells_new _ _ _) (fun x hx => by simp at hx; rcases hx with rfl | rfl | rfl <;> rfl) (by unfold maxLen; omega) (by omega) (by have := HB.size; simp; omega) ?_; intro v' w3 hown' hgrow3 hnil3) | fail)
        obtain ⟨⟨g3, cv', rfl, hcv⟩, hb3⟩ := row_stepz (by decide) (own_below BO.out hb) hown' hgrow3 HB
        have hfl : (wordsN a t (k + 1)).flatMap encOp = (wordsN a t k).flatMap encOp ++ [.bool false, .int .i64 (a + 4 * (k : Int)), .string (restB t k ++ Z)] := by rw [wordsN_succ, List.flatMap_append, List.flatMap_singleton, WF.out]; rfl
        rw [← hfl] at hown'
        clear hfl
        go_wp2_with fail
        go_roundg ((t.size + 3) / 4 - (k + 1))
        case measure => omega
        case rel => exact ⟨k + 1, _, cv', by omega, by omega, (by show Value.int .i64 (a + 4 * (k : Int) + 4) = _; exact vInt (by omega)), (by rw [RN.out]), rfl, hown', hb3⟩
    · obtain rfl : k = (t.size + 3) / 4 := by omega
      have he : (restB t ((t.size + 3) / 4)).toList.isEmpty = true := is_nil (by omega)
      have hown := BO.out
      clear hrs
      go_wp2_with fail
      go_ret2
      exact ⟨A, c, rfl, hown, HB⟩
end Go.Proofs.Ytimnhdmpfndeaaa.Pl
end
/- Layer 3: the references' Words. -/
section
namespace Go.Proofs.Ytimnhdmpfndeaaa.Pl
open Go.RowKit Go.Proofs.Ytimnhdmpfndeaaa.Kt Go.Proofs.Ytimnhdmpfndeaaa.Lw Go.Proofs.Ytimnhdmpfndeaaa.St Go.Proofs.Ytimnhdmpfndeaaa.Nm Go.Proofs.Ytimnhdmpfndeaaa.By Go.Proofs.Ytimnhdmpfndeaaa.En Go.Proofs.Ytimnhdmpfndeaaa.Jr Go.Proofs.Ytimnhdmpfndeaaa.Sl Go.Proofs.Ytimnhdmpfndeaaa.Gr Go.Proofs.Ytimnhdmpfndeaaa.Ops
set_option linter.unusedVariables false
set_option linter.unusedSimpArgs false
def padB (t : ByteArray) : ByteArray := t ++ fullB ((4 - t.size % 4) % 4)
theorem pad_size (t : ByteArray) : (padB t).size = 4 * ((t.size + 3) / 4) := by
  unfold padB
  rw [ByteArray.size_append, full_size]
  omega
theorem pad_word (t : ByteArray) (k : Nat) (h : k < (t.size + 3) / 4) : (padB t).extract (4 * k) (4 * k + 4) = wordB t k := by
  unfold padB wordB
  by_cases hf : 4 * k + 4 ≤ t.size
  · rw [show 4 - (t.size - 4 * k) = 0 by omega]
    apply ext_data
    have hl : t.data.toList.length = t.size := by rw [Array.length_toList]; rfl
    simp only [ByteArray.data_extract, ByteArray.data_append, Array.toList_extract, Array.toList_append, List.extract, fullB, List.replicate_zero]
    rw [List.drop_append_of_le_length (by omega), List.take_append_of_le_length (by rw [List.length_drop]; omega)]
    simp
  · have e : (4 - t.size % 4) % 4 = 4 - (t.size - 4 * k) := by omega
    rw [e]
    apply ext_data
    have hl : t.data.toList.length = t.size := by rw [Array.length_toList]; rfl
    simp only [ByteArray.data_extract, ByteArray.data_append, Array.toList_extract, Array.toList_append, List.extract, fullB]
    rw [List.drop_append_of_le_length (by omega), List.take_append]
    simp only [List.length_drop, hl, List.take_replicate, List.toList_toArray]
    congr 2
    omega
set_option maxRecDepth 100000 in
set_option maxHeartbeats 6400000 in
theorem rwords_c (a : Int) (t : ByteArray) (w : World) (a0 : 0 ≤ a) (a4 : a % 4 = 0) (ha : a + (t.size : Int) ≤ 768) :
    Calls Try.prog 41 #[.int .i64 a, .string t] w fun e w' => ∃ A c, e = .returned (.tuple #[.slice A ((t.size + 3) / 4) c, .int .i64 0]) ∧ w'.ownsRow w.heap.size 50 3 (.slice A ((t.size + 3) / 4) c) ((t.size + 3) / 4) ((wordsL a t).flatMap encOp) ∧ Below w.heap.size w w' := by
  obtain ⟨i0, hi, hz0, hz1, hz2⟩ := info_parts infoOp
  have a1 : a ≤ 768 := by omega
  have HB := Below.refl w.heap.size w
  have hm4 : (a % 4 != 0) = false := by simp [a4]
  have hts : (t.size : Int) ≤ 768 - a := by omega
  have uu := Lib.hid (fun W : World => upTo_c a 0 768 W)
  rw [show rngB a 0 768 = true by simp [rngB]; omega] at uu
  have fl := Lib.hid (fun W : World => rfull_c ((4 - t.size % 4) % 4) (by omega) W)
  have hcc : -((t.size : Int) % 4) % 4 = (((4 - t.size % 4) % 4 : Nat) : Int) := by omega
  rw [← hcc] at fl
  clear hcc
  have hz := pad_size t
  have hfz := full_size ((4 - t.size % 4) % 4)
  have hfz4 : (fullB ((4 - t.size % 4) % 4)).size ≤ 4 := by omega
  have hp : t ++ fullB ((4 - t.size % 4) % 4) = padB t := rfl
  clear a4 hfz
  generalize fullB ((4 - t.size % 4) % 4) = Z at *
  have hq : (9223372036854775807 < t.size + Z.size) = False := by simp; omega
  go_enter Try.func41, Try.ntmps41
  go_wp2_with (first | (go_at_call 44; with_reducible refine (uu.out _).mono ?_; rintro e w' ⟨rfl, rfl⟩) | (go_at_call 49; with_reducible refine (fl.out _).mono ?_; rintro e w' ⟨rfl, hb⟩; have HB := bl_step (w := w) (by repeat (with_reducible first | exact HB | (refine bl_set ?_ (by omega)) | apply bl_alloc | apply bl_drew | apply bl_drewN | fail)) hb; have hzB := HB.size) | fail)
  have PW := Lib.hid (fun k (h : k < (t.size + 3) / 4) => pad_word t k h)
  have HZ := Lib.hid hz
  have hpz : (padB t).size ≤ 1000 := by omega
  generalize padB t = P at *
  clear hp hz hq fl uu hb hzB
  go_loopg [7, 8] ((t.size + 3) / 4) (fun gg s7 s8 wr => ∃ (k : Nat) (A : Option Addr) (c : Nat), k ≤ (t.size + 3) / 4 ∧ (t.size + 3) / 4 - k ≤ gg ∧ s8 = .int .i64 (4 * (k : Int)) ∧ s7 = .slice A k c ∧ Aside (wr.ownsRow w.heap.size 50 3 (.slice A k c) k ((wordsN a t k).flatMap encOp)) ∧ Aside (Below w.heap.size w wr))
  case atStart => exact ⟨0, none, 0, by omega, by omega, vInt (by omega), rfl, World.ownsRow_nil _ _ _ _, HB⟩
  case round =>
    clear HB
    obtain ⟨k, A, c, hk, hg, rfl, rfl, BO, BW⟩ := hrel
    have HB := BW.out
    have hsize := HB.size
    by_cases hlt : k < (t.size + 3) / 4
    · have h1 : 4 * (k : Int) < (P.size : Int) := by have := HZ.out; omega
      have h2 : 4 * (k : Int) + 4 ≤ (P.size : Int) := by have := HZ.out; omega
      have h3 : 4 * k ≤ P.size := by have := HZ.out; omega
      have h4 : 4 * k + 4 ≤ P.size := by have := HZ.out; omega
      go_upto_region 7 with (first | (at_builtin; refine wpList_append_own _ rfl _ _ 29 rfl w.heap.size 50 i0 (.agg #[.bool false, .int .i64 0, .string ⟨#[]⟩]) 3 32 Try.underlying29 hi hz0 hz1 hz2 rfl (by decide) _ _ _ rfl (BO.out.alloc _) ⟨wr.heap.size, 0, none⟩ 1 1 [.bool false, .int .i64 (a + 4 * (k : Int)), .string (P.extract (4 * k) (4 * k + 4))] rfl rfl (cells_new _ _ _) (fun x hx => by simp at hx; rcases hx with rfl | rfl | rfl <;> rfl) (by unfold maxLen; omega) (by omega) (by have := HB.size; simp; omega) ?_; intro v' w3 hown' hgrow3 hnil3) | fail)
      obtain ⟨⟨g3, cv', rfl, hcv⟩, hb3⟩ := row_stepz (by decide) BO.out hown' hgrow3 HB
      have hfl : (wordsN a t (k + 1)).flatMap encOp = (wordsN a t k).flatMap encOp ++ [.bool false, .int .i64 (a + 4 * (k : Int)), .string (P.extract (4 * k) (4 * k + 4))] := by rw [wordsN_succ, List.flatMap_append, List.flatMap_singleton, PW.out k hlt]; rfl
      rw [← hfl] at hown'
      clear hfl
      go_wp2_with fail
      go_roundg ((t.size + 3) / 4 - (k + 1))
      case measure => omega
      case rel => exact ⟨k + 1, _, cv', by omega, by omega, (by show Value.int .i64 (4 * (k : Int) + 4) = _; exact vInt (by omega)), rfl, hown', hb3⟩
    · obtain rfl : k = (t.size + 3) / 4 := by omega
      have h1 : (P.size : Int) ≤ 4 * (((t.size + 3) / 4 : Nat) : Int) := by have := HZ.out; omega
      have hown := BO.out
      go_wp2_with fail
      go_ret2
      exact ⟨A, c, rfl, hown, HB⟩
end Go.Proofs.Ytimnhdmpfndeaaa.Pl
end
/- Layer 8: where the next record goes: what the program's and the references' Append answer. -/
section
namespace Go.Proofs.Ytimnhdmpfndeaaa.Pl
open Go.RowKit Go.Proofs.Ytimnhdmpfndeaaa.Kt Go.Proofs.Ytimnhdmpfndeaaa.Lw Go.Proofs.Ytimnhdmpfndeaaa.St Go.Proofs.Ytimnhdmpfndeaaa.Nm Go.Proofs.Ytimnhdmpfndeaaa.By Go.Proofs.Ytimnhdmpfndeaaa.En Go.Proofs.Ytimnhdmpfndeaaa.Jr Go.Proofs.Ytimnhdmpfndeaaa.Im Go.Proofs.Ytimnhdmpfndeaaa.Sl Go.Proofs.Ytimnhdmpfndeaaa.Gr Go.Proofs.Ytimnhdmpfndeaaa.Ops Go.Proofs.Ytimnhdmpfndeaaa.Ch
set_option linter.unusedVariables false
set_option linter.unusedSimpArgs false
attribute [local irreducible] gotB goodB Cr.crcB nQ nS nZ nM placeB wholeB
/-- the sector of the active record. -/
def homeN (f : ByteArray) : Nat := match activeO f with | some p => (p.at_ / 96).toNat | none => 0
theorem home_some {f : ByteArray} {p : PlV} (h : activeO f = some p) : homeN f = (p.at_ / 96).toNat := by simp only [homeN, h]
theorem home_none {f : ByteArray} (h : activeO f = none) : homeN f = 0 := by simp only [homeN, h]
theorem act_ok {f : ByteArray} {p : PlV} (h : activeO f = some p) : PlOk f p := by
  have k := active_best f
  rw [h] at k
  exact scan_ok k.mem
theorem home_lt (f : ByteArray) : homeN f < 2 := by
  cases h : activeO f with
  | none => rw [home_none h]; decide
  | some p =>
    have := (act_ok h).at_rng
    rw [home_some h]
    omega
/-- where a record goes, and the steps. -/
def spotN (f : ByteArray) : Int := match freeO f (homeN f) with | some k => 24 * (k : Int) | none => (1 - (homeN f : Int)) * 96
def headL (f : ByteArray) : List OpV := match freeO f (homeN f) with | some _ => [] | none => [(true, (1 - (homeN f : Int)) * 96, ⟨#[]⟩)]
def appL (f : ByteArray) (q s z m : Int) : List OpV := headL f ++ wordsL (spotN f) (wholeB q s z m)
theorem free_lt {f : ByteArray} : ∀ (n k j : Nat), freeFrom f k n = some j → k ≤ j ∧ j < k + n
  | 0, k, j, h => by simp [freeFrom] at h
  | n + 1, k, j, h => by
    unfold freeFrom at h
    by_cases hp : placeB f k = fullB 24
    · rw [if_pos hp] at h
      have := Option.some.inj h
      omega
    · rw [if_neg hp] at h
      have := free_lt n (k + 1) j h
      omega
theorem freeO_lt {f : ByteArray} {s k : Nat} (h : freeO f s = some k) : 4 * s ≤ k ∧ k < 4 * s + 4 := free_lt 4 (4 * s) k h
theorem freeV_some {f : ByteArray} {s k : Nat} (h : freeO f s = some k) : freeV f s = #[.int .i64 (24 * (k : Int)), .bool true, .int .i64 0] := by simp [freeV, freeA, h]
theorem freeV_none {f : ByteArray} {s : Nat} (h : freeO f s = none) : freeV f s = #[.int .i64 0, .bool false, .int .i64 0] := by simp [freeV, freeA, h]
set_option maxHeartbeats 3200000 in
theorem home_c (f : ByteArray) (w : World) (hf : f.size = 768) : Calls Try.prog 36 #[.string f] w fun e w' => e = .returned (.int .i64 (homeN f)) ∧ Below w.heap.size w w' := by
  have HB := Below.refl w.heap.size w
  have ac := Lib.hid (fun W : World => active_c f W hf)
  cases ho : activeO f with
  | none =>
    have hv := act_none ho
    rw [hv.1, hv.2] at ac
    have hh := Lib.hid (home_none ho)
    clear ho hv
    go_enter Try.func36, Try.ntmps36
    go_wp2_with (first | (go_at_call 63; with_reducible refine (ac.out _).mono ?_; rintro e w' ⟨rfl, hb⟩; have HB := bl_step (w := w) (by repeat (with_reducible first | exact HB | (refine bl_set ?_ (by omega)) | apply bl_alloc | apply bl_drew | apply bl_drewN | fail)) hb; have hzB := HB.size; have K1 := fun cs => Blk.new w' cs 40) | fail)
    go_ret
    exact ⟨by rw [hh.out]; rfl, (by repeat (with_reducible first | exact Below.refl _ _ | assumption | (refine bl_set ?_ (by omega)) | apply bl_alloc | apply bl_drewN | apply bl_drew | (refine bl_step ?_ (by assumption)) | fail))⟩
  | some p =>
    have hv := act_some ho
    rw [hv.1, hv.2] at ac
    have hr := (act_ok ho).at_rng
    obtain ⟨hr0, hr1⟩ := hr
    have hh := Lib.hid (show (homeN f : Int) = p.at_ / 96 by rw [home_some ho]; omega)
    clear ho hv
    go_enter Try.func36, Try.ntmps36
    go_wp2_with (first | (go_at_call 63; with_reducible refine (ac.out _).mono ?_; rintro e w' ⟨rfl, hb⟩; have HB := bl_step (w := w) (by repeat (with_reducible first | exact HB | (refine bl_set ?_ (by omega)) | apply bl_alloc | apply bl_drew | apply bl_drewN | fail)) hb; have hzB := HB.size; have K1 := fun cs => Blk.new w' cs 40) | fail)
    go_ret
    exact ⟨by rw [hh.out]; rfl, (by repeat (with_reducible first | exact Below.refl _ _ | assumption | (refine bl_set ?_ (by omega)) | apply bl_alloc | apply bl_drewN | apply bl_drew | (refine bl_step ?_ (by assumption)) | fail))⟩
theorem words24_c (a : Int) (t : ByteArray) (w : World) (a0 : 0 ≤ a) (a4 : a % 4 = 0) (ha : a ≤ 700) (ht : t.size = 24) :
    Calls Try.prog 39 #[.int .i64 a, .string t] w fun e w' => ∃ A c, e = .returned (.tuple #[.slice A 6 c, .int .i64 0]) ∧ w'.ownsRow w.heap.size 50 3 (.slice A 6 c) 6 ((wordsL a t).flatMap encOp) ∧ Below w.heap.size w w' := by
  have h := words_c a t w a0 a4 (by omega)
  rwa [ht] at h
theorem rwords24_c (a : Int) (t : ByteArray) (w : World) (a0 : 0 ≤ a) (a4 : a % 4 = 0) (ha : a ≤ 700) (ht : t.size = 24) :
    Calls Try.prog 41 #[.int .i64 a, .string t] w fun e w' => ∃ A c, e = .returned (.tuple #[.slice A 6 c, .int .i64 0]) ∧ w'.ownsRow w.heap.size 50 3 (.slice A 6 c) 6 ((wordsL a t).flatMap encOp) ∧ Below w.heap.size w w' := by
  have h := rwords_c a t w a0 a4 (by omega)
  rwa [ht] at h
theorem words24_len {a : Int} {t : ByteArray} (ht : t.size = 24) : (wordsL a t).length = 6 := by
  unfold wordsL
  rw [wordsN_len, ht]
def appY (f : ByteArray) (q s z m : Int) (w : World) (e : Ending) (w' : World) : Prop := ∃ (A : Option Addr) (c : Nat), e = .returned (.tuple #[.slice A (appL f q s z m).length c, .int .i64 0]) ∧ w'.ownsRow w.heap.size 50 3 (.slice A (appL f q s z m).length c) (appL f q s z m).length ((appL f q s z m).flatMap encOp) ∧ Below w.heap.size w w'
set_option maxRecDepth 100000 in
set_option maxHeartbeats 6400000 in
theorem append_no (f : ByteArray) (q s z m : Int) (w : World) (h : f.size ≤ 9223372036854775807) (hn : ¬ (f.size = 768 ∧ recMay q s z m = true)) :
    Calls Try.prog 12 #[.string f, .agg #[.int .i64 q, .int .i64 s, .int .i64 z, .int .i64 m]] w fun e w' => e = .returned (.tuple #[.slice none 0 0, .int .i64 800]) ∧ Below w.heap.size w w' := by
  have HB := Below.refl w.heap.size w
  have K0 := Blk.new w #[.int .i64 q, .int .i64 s, .int .i64 z, .int .i64 m] 23
  have mm := Lib.hid (fun W : World => may_c f W h)
  have pp := Lib.hid (fun W : World => put_c q s z m W)
  by_cases hf : f.size = 768
  · have hm : recMay q s z m = false := by
      cases hq : recMay q s z m
      · rfl
      · exact absurd ⟨hf, hq⟩ hn
    have hv : putB q s z m = ⟨#[]⟩ ∧ putE q s z m = 400 := by simp [putB, putE, hm]
    rw [hv.1, hv.2] at pp
    rw [decide_eq_true hf] at mm
    clear hm hf hn hv
    go_enter Try.func12, Try.ntmps12
    go_wp2_with (first | (go_at_call 34; with_reducible refine (pp.out _).mono ?_; rintro e w' ⟨rfl, hb⟩; have HB := bl_step (w := w) (by repeat (with_reducible first | exact HB | (refine bl_set ?_ (by omega)) | apply bl_alloc | apply bl_drew | apply bl_drewN | fail)) hb; have hzB := HB.size; have K0 := Blk.on (by first | exact K0 | exact K0 #[] | exact K0 (.cells #[] 0) #[] | exact K0 #[] #[]) (by repeat (with_reducible first | exact K0 | exact K0 _ | exact K0 _ _ | apply Blk.alloc | apply Blk.drew | apply Blk.drewN | apply Blk.set4_0 | apply Blk.set4_1 | apply Blk.set4_2 | apply Blk.set4_3 | (apply Blk.off; (first | assumption | omega | (simp; omega))) | fail)) hb; (try clear cK0_0 cK0_1 cK0_2 cK0_3 fK0 lK0 nK0 mK0); obtain ⟨cK0_0, cK0_1, cK0_2, cK0_3, fK0, lK0, nK0, mK0⟩ := Blk.all4 K0) | (go_at_call 35; with_reducible refine (mm.out _).mono ?_; rintro e w' ⟨rfl, rfl⟩) | fail)
    go_ret2
    exact ⟨rfl, HB⟩
  · rw [decide_eq_false hf] at mm
    clear hf hn
    go_enter Try.func12, Try.ntmps12
    go_wp2_with (first | (go_at_call 34; with_reducible refine (pp.out _).mono ?_; rintro e w' ⟨rfl, hb⟩; have HB := bl_step (w := w) (by repeat (with_reducible first | exact HB | (refine bl_set ?_ (by omega)) | apply bl_alloc | apply bl_drew | apply bl_drewN | fail)) hb; have hzB := HB.size; have K0 := Blk.on (by first | exact K0 | exact K0 #[] | exact K0 (.cells #[] 0) #[] | exact K0 #[] #[]) (by repeat (with_reducible first | exact K0 | exact K0 _ | exact K0 _ _ | apply Blk.alloc | apply Blk.drew | apply Blk.drewN | apply Blk.set4_0 | apply Blk.set4_1 | apply Blk.set4_2 | apply Blk.set4_3 | (apply Blk.off; (first | assumption | omega | (simp; omega))) | fail)) hb; (try clear cK0_0 cK0_1 cK0_2 cK0_3 fK0 lK0 nK0 mK0); obtain ⟨cK0_0, cK0_1, cK0_2, cK0_3, fK0, lK0, nK0, mK0⟩ := Blk.all4 K0) | (go_at_call 35; with_reducible refine (mm.out _).mono ?_; rintro e w' ⟨rfl, rfl⟩) | fail)
    go_ret2
    exact ⟨rfl, HB⟩
set_option maxRecDepth 100000 in
set_option maxHeartbeats 6400000 in
theorem rappend_no (f : ByteArray) (q s z m : Int) (w : World) (h : f.size ≤ 9223372036854775807) (hn : ¬ (f.size = 768 ∧ recMay q s z m = true)) :
    Calls Try.prog 13 #[.string f, .agg #[.int .i64 q, .int .i64 s, .int .i64 z, .int .i64 m]] w fun e w' => e = .returned (.tuple #[.slice none 0 0, .int .i64 800]) ∧ Below w.heap.size w w' := by
  have HB := Below.refl w.heap.size w
  have K0 := Blk.new w #[.int .i64 q, .int .i64 s, .int .i64 z, .int .i64 m] 23
  have mm := Lib.hid (fun W : World => rmay_c f W h)
  have pp := Lib.hid (fun W : World => rput_c q s z m W)
  by_cases hf : f.size = 768
  · have hm : recMay q s z m = false := by
      cases hq : recMay q s z m
      · rfl
      · exact absurd ⟨hf, hq⟩ hn
    have hv : putB q s z m = ⟨#[]⟩ ∧ putE q s z m = 400 := by simp [putB, putE, hm]
    rw [hv.1, hv.2] at pp
    rw [decide_eq_true hf] at mm
    clear hm hf hn hv
    go_enter Try.func13, Try.ntmps13
    go_wp2_with (first | (go_at_call 25; with_reducible refine (pp.out _).mono ?_; rintro e w' ⟨rfl, hb⟩; have HB := bl_step (w := w) (by repeat (with_reducible first | exact HB | (refine bl_set ?_ (by omega)) | apply bl_alloc | apply bl_drew | apply bl_drewN | fail)) hb; have hzB := HB.size; have K0 := Blk.on (by first | exact K0 | exact K0 #[] | exact K0 (.cells #[] 0) #[] | exact K0 #[] #[]) (by repeat (with_reducible first | exact K0 | exact K0 _ | exact K0 _ _ | apply Blk.alloc | apply Blk.drew | apply Blk.drewN | apply Blk.set4_0 | apply Blk.set4_1 | apply Blk.set4_2 | apply Blk.set4_3 | (apply Blk.off; (first | assumption | omega | (simp; omega))) | fail)) hb; (try clear cK0_0 cK0_1 cK0_2 cK0_3 fK0 lK0 nK0 mK0); obtain ⟨cK0_0, cK0_1, cK0_2, cK0_3, fK0, lK0, nK0, mK0⟩ := Blk.all4 K0) | (go_at_call 31; with_reducible refine (mm.out _).mono ?_; rintro e w' ⟨rfl, rfl⟩) | fail)
    go_ret2
    exact ⟨rfl, HB⟩
  · rw [decide_eq_false hf] at mm
    clear hf hn
    go_enter Try.func13, Try.ntmps13
    go_wp2_with (first | (go_at_call 25; with_reducible refine (pp.out _).mono ?_; rintro e w' ⟨rfl, hb⟩; have HB := bl_step (w := w) (by repeat (with_reducible first | exact HB | (refine bl_set ?_ (by omega)) | apply bl_alloc | apply bl_drew | apply bl_drewN | fail)) hb; have hzB := HB.size; have K0 := Blk.on (by first | exact K0 | exact K0 #[] | exact K0 (.cells #[] 0) #[] | exact K0 #[] #[]) (by repeat (with_reducible first | exact K0 | exact K0 _ | exact K0 _ _ | apply Blk.alloc | apply Blk.drew | apply Blk.drewN | apply Blk.set4_0 | apply Blk.set4_1 | apply Blk.set4_2 | apply Blk.set4_3 | (apply Blk.off; (first | assumption | omega | (simp; omega))) | fail)) hb; (try clear cK0_0 cK0_1 cK0_2 cK0_3 fK0 lK0 nK0 mK0); obtain ⟨cK0_0, cK0_1, cK0_2, cK0_3, fK0, lK0, nK0, mK0⟩ := Blk.all4 K0) | (go_at_call 31; with_reducible refine (mm.out _).mono ?_; rintro e w' ⟨rfl, rfl⟩) | fail)
    go_ret2
    exact ⟨rfl, HB⟩
end Go.Proofs.Ytimnhdmpfndeaaa.Pl
end
/- Layer 8: the program's Append. -/
section
namespace Go.Proofs.Ytimnhdmpfndeaaa.Pl
open Go.RowKit Go.Proofs.Ytimnhdmpfndeaaa.Kt Go.Proofs.Ytimnhdmpfndeaaa.Lw Go.Proofs.Ytimnhdmpfndeaaa.St Go.Proofs.Ytimnhdmpfndeaaa.Nm Go.Proofs.Ytimnhdmpfndeaaa.By Go.Proofs.Ytimnhdmpfndeaaa.En Go.Proofs.Ytimnhdmpfndeaaa.Jr Go.Proofs.Ytimnhdmpfndeaaa.Im Go.Proofs.Ytimnhdmpfndeaaa.Sl Go.Proofs.Ytimnhdmpfndeaaa.Gr Go.Proofs.Ytimnhdmpfndeaaa.Ops Go.Proofs.Ytimnhdmpfndeaaa.Ch
set_option linter.unusedVariables false
set_option linter.unusedSimpArgs false
attribute [local irreducible] gotB goodB Cr.crcB nQ nS nZ nM placeB wholeB
set_option maxRecDepth 100000 in
set_option maxHeartbeats 6400000 in
theorem append_yes (f : ByteArray) (q s z m : Int) (w : World) (hf : f.size = 768) (hm : recMay q s z m = true) :
    Calls Try.prog 12 #[.string f, .agg #[.int .i64 q, .int .i64 s, .int .i64 z, .int .i64 m]] w (appY f q s z m w) := by
  obtain ⟨i0, hi, hz0, hz1, hz2⟩ := info_parts infoOp
  have HB := Below.refl w.heap.size w
  have K0 := Blk.new w #[.int .i64 q, .int .i64 s, .int .i64 z, .int .i64 m] 23
  have mm := Lib.hid (fun W : World => may_c f W (by omega))
  rw [decide_eq_true hf] at mm
  have pp := Lib.hid (fun W : World => put_c q s z m W)
  have hv : putB q s z m = wholeB q s z m ∧ putE q s z m = 0 := by simp [putB, putE, hm]
  rw [hv.1, hv.2] at pp
  have hhm := Lib.hid (fun W : World => home_c f W hf)
  have hl := home_lt f
  have fr := Lib.hid (fun W : World => free_c f (homeN f) W hf hl)
  have ht := whole_size q s z m
  have hwl := Lib.hid (fun a : Int => words24_len (a := a) ht)
  cases ho : freeO f (homeN f) with
  | some k =>
    have hk := freeO_lt ho
    rw [freeV_some ho] at fr
    have wd := Lib.hid (fun W : World => words24_c (24 * (k : Int)) (wholeB q s z m) W (by omega) (by omega) (by omega) ht)
    have hap := Lib.hid (show appL f q s z m = [] ++ wordsL (24 * (k : Int)) (wholeB q s z m) by simp only [appL, headL, spotN, ho])
    have hal : (appL f q s z m).length = 6 := by rw [hap.out, List.nil_append]; exact words24_len ht
    have HAL := Lib.hid hal
    clear hm hf hv ho hk ht hal
    generalize homeN f = h at *
    generalize wholeB q s z m = T at *
    go_enter Try.func12, Try.ntmps12
    go_upto_region 11 with (first | (go_at_call 34; with_reducible refine (pp.out _).mono ?_; rintro e w' ⟨rfl, hb⟩; have HB := bl_step (w := w) (by repeat (with_reducible first | exact HB | (refine bl_set ?_ (by omega)) | apply bl_alloc | apply bl_drew | apply bl_drewN | fail)) hb; have hzB := HB.size; have K0 := Blk.on (by first | exact K0 | exact K0 #[] | exact K0 (.cells #[] 0) #[] | exact K0 #[] #[]) (by repeat (with_reducible first | exact K0 | exact K0 _ | exact K0 _ _ | apply Blk.alloc | apply Blk.drew | apply Blk.drewN | apply Blk.set4_0 | apply Blk.set4_1 | apply Blk.set4_2 | apply Blk.set4_3 | (apply Blk.off; (first | assumption | omega | (simp; omega))) | fail)) hb; (try clear cK0_0 cK0_1 cK0_2 cK0_3 fK0 lK0 nK0 mK0); obtain ⟨cK0_0, cK0_1, cK0_2, cK0_3, fK0, lK0, nK0, mK0⟩ := Blk.all4 K0) | (go_at_call 35; with_reducible refine (mm.out _).mono ?_; rintro e w' ⟨rfl, rfl⟩) | (go_at_call 36; with_reducible refine (hhm.out _).mono ?_; rintro e w' ⟨rfl, hb⟩; have HB := bl_step (w := w) (by repeat (with_reducible first | exact HB | (refine bl_set ?_ (by omega)) | apply bl_alloc | apply bl_drew | apply bl_drewN | fail)) hb; have hzB := HB.size; have K0 := Blk.on (by first | exact K0 | exact K0 #[] | exact K0 (.cells #[] 0) #[] | exact K0 #[] #[]) (by repeat (with_reducible first | exact K0 | exact K0 _ | exact K0 _ _ | apply Blk.alloc | apply Blk.drew | apply Blk.drewN | apply Blk.set4_0 | apply Blk.set4_1 | apply Blk.set4_2 | apply Blk.set4_3 | (apply Blk.off; (first | assumption | omega | (simp; omega))) | fail)) hb; (try clear cK0_0 cK0_1 cK0_2 cK0_3 fK0 lK0 nK0 mK0); obtain ⟨cK0_0, cK0_1, cK0_2, cK0_3, fK0, lK0, nK0, mK0⟩ := Blk.all4 K0) | (go_at_call 37; with_reducible refine (fr.out _).mono ?_; rintro e w' ⟨rfl, hb⟩; have HB := bl_step (w := w) (by repeat (with_reducible first | exact HB | (refine bl_set ?_ (by omega)) | apply bl_alloc | apply bl_drew | apply bl_drewN | fail)) hb; have hzB := HB.size; have K0 := Blk.on (by first | exact K0 | exact K0 #[] | exact K0 (.cells #[] 0) #[] | exact K0 #[] #[]) (by repeat (with_reducible first | exact K0 | exact K0 _ | exact K0 _ _ | apply Blk.alloc | apply Blk.drew | apply Blk.drewN | apply Blk.set4_0 | apply Blk.set4_1 | apply Blk.set4_2 | apply Blk.set4_3 | (apply Blk.off; (first | assumption | omega | (simp; omega))) | fail)) hb; (try clear cK0_0 cK0_1 cK0_2 cK0_3 fK0 lK0 nK0 mK0); obtain ⟨cK0_0, cK0_1, cK0_2, cK0_3, fK0, lK0, nK0, mK0⟩ := Blk.all4 K0) | (go_at_call 39; (with_reducible refine (wd.out _).mono ?_); rintro e w' ⟨A, c, rfl, hown, hb⟩; have HB := bl_step (w := w) HB hb) | fail)
    have LW := lies_own encOp_len hown (hwl.out _)
    go_wp2_with (first | (at_builtin; refine wpList_grow rfl _ _ 29 rfl w' w.heap.size 50 i0 (.agg #[.bool false, .int .i64 0, .string ⟨#[]⟩]) 32 Try.underlying29 hi hz0 hz1 hz2 rfl (by decide) encOp_len encOp_one (.slice none 0 0) rfl 0 [] (World.ownsRow_nil _ _ _ _) A 6 c rfl (wordsL (24 * (k : Int)) T) LW (hwl.out _) (by decide) (by decide) HB.size ?_; intro A' c' w3 hown' hgrow3 hat3) | fail)
    go_ret2
    refine ⟨A', c', by rw [HAL.out]; rfl, ?_, bl_grown HB hgrow3 (fun g hg => by simp [Value.ownBlock] at hg)⟩
    rw [HAL.out, hap.out]
    exact hown'
  | none =>
    rw [freeV_none ho] at fr
    have bg := Lib.hid (fun W : World => begin_c (1 - (homeN f : Int)) W (by omega) (by omega))
    have wd := Lib.hid (fun W : World => words24_c ((1 - (homeN f : Int)) * 96) (wholeB q s z m) W (by omega) (by omega) (by omega) ht)
    have hap := Lib.hid (show appL f q s z m = [(true, (1 - (homeN f : Int)) * 96, (⟨#[]⟩ : ByteArray))] ++ wordsL ((1 - (homeN f : Int)) * 96) (wholeB q s z m) by simp only [appL, headL, spotN, ho])
    have hal : (appL f q s z m).length = 7 := by rw [hap.out, List.length_append, words24_len ht]; rfl
    have HAL := Lib.hid hal
    clear hm hf hv ho ht hal
    generalize homeN f = h at *
    generalize wholeB q s z m = T at *
    go_enter Try.func12, Try.ntmps12
    go_upto_region 9 with (first | (go_at_call 34; with_reducible refine (pp.out _).mono ?_; rintro e w' ⟨rfl, hb⟩; have HB := bl_step (w := w) (by repeat (with_reducible first | exact HB | (refine bl_set ?_ (by omega)) | apply bl_alloc | apply bl_drew | apply bl_drewN | fail)) hb; have hzB := HB.size; have K0 := Blk.on (by first | exact K0 | exact K0 #[] | exact K0 (.cells #[] 0) #[] | exact K0 #[] #[]) (by repeat (with_reducible first | exact K0 | exact K0 _ | exact K0 _ _ | apply Blk.alloc | apply Blk.drew | apply Blk.drewN | apply Blk.set4_0 | apply Blk.set4_1 | apply Blk.set4_2 | apply Blk.set4_3 | (apply Blk.off; (first | assumption | omega | (simp; omega))) | fail)) hb; (try clear cK0_0 cK0_1 cK0_2 cK0_3 fK0 lK0 nK0 mK0); obtain ⟨cK0_0, cK0_1, cK0_2, cK0_3, fK0, lK0, nK0, mK0⟩ := Blk.all4 K0) | (go_at_call 35; with_reducible refine (mm.out _).mono ?_; rintro e w' ⟨rfl, rfl⟩) | (go_at_call 36; with_reducible refine (hhm.out _).mono ?_; rintro e w' ⟨rfl, hb⟩; have HB := bl_step (w := w) (by repeat (with_reducible first | exact HB | (refine bl_set ?_ (by omega)) | apply bl_alloc | apply bl_drew | apply bl_drewN | fail)) hb; have hzB := HB.size; have K0 := Blk.on (by first | exact K0 | exact K0 #[] | exact K0 (.cells #[] 0) #[] | exact K0 #[] #[]) (by repeat (with_reducible first | exact K0 | exact K0 _ | exact K0 _ _ | apply Blk.alloc | apply Blk.drew | apply Blk.drewN | apply Blk.set4_0 | apply Blk.set4_1 | apply Blk.set4_2 | apply Blk.set4_3 | (apply Blk.off; (first | assumption | omega | (simp; omega))) | fail)) hb; (try clear cK0_0 cK0_1 cK0_2 cK0_3 fK0 lK0 nK0 mK0); obtain ⟨cK0_0, cK0_1, cK0_2, cK0_3, fK0, lK0, nK0, mK0⟩ := Blk.all4 K0) | (go_at_call 37; with_reducible refine (fr.out _).mono ?_; rintro e w' ⟨rfl, hb⟩; have HB := bl_step (w := w) (by repeat (with_reducible first | exact HB | (refine bl_set ?_ (by omega)) | apply bl_alloc | apply bl_drew | apply bl_drewN | fail)) hb; have hzB := HB.size; have K0 := Blk.on (by first | exact K0 | exact K0 #[] | exact K0 (.cells #[] 0) #[] | exact K0 #[] #[]) (by repeat (with_reducible first | exact K0 | exact K0 _ | exact K0 _ _ | apply Blk.alloc | apply Blk.drew | apply Blk.drewN | apply Blk.set4_0 | apply Blk.set4_1 | apply Blk.set4_2 | apply Blk.set4_3 | (apply Blk.off; (first | assumption | omega | (simp; omega))) | fail)) hb; (try clear cK0_0 cK0_1 cK0_2 cK0_3 fK0 lK0 nK0 mK0); obtain ⟨cK0_0, cK0_1, cK0_2, cK0_3, fK0, lK0, nK0, mK0⟩ := Blk.all4 K0) | (go_at_call 38; with_reducible refine (bg.out _).mono ?_; rintro e w' ⟨rfl, rfl⟩) | fail)
    go_upto_region 10 with (first | (at_builtin; refine wpList_append_own _ rfl _ _ 29 rfl w.heap.size 50 i0 (.agg #[.bool false, .int .i64 0, .string ⟨#[]⟩]) 3 32 Try.underlying29 hi hz0 hz1 hz2 rfl (by decide) _ _ _ rfl (World.ownsRow_nil _ _ _ _) ⟨w'.heap.size, 0, none⟩ 1 1 [.bool true, .int .i64 ((1 - (h : Int)) * 96), .string ⟨#[]⟩] rfl rfl (cells_new _ _ _) (fun x hx => by simp at hx; rcases hx with rfl | rfl | rfl <;> rfl) (by decide) (by decide) (by have := HB.size; simp; omega) ?_; intro v' w3 hown' hgrow3 hnil3) | fail)
    obtain ⟨⟨g3, cv', rfl, hcv⟩, hb3⟩ := row_stepz (by decide) (World.ownsRow_nil _ _ _ _) hown' hgrow3 HB
    have hg3 : w.heap.size ≤ g3 := (hown'.lt g3 rfl).1
    go_upto_region 11 with (first | (go_at_call 39; (with_reducible refine (wd.out _).mono ?_); rintro e w4 ⟨A, c, rfl, hown4, hb4⟩) | fail)
    have HB4 := bl_step hb3 hb4
    have LW := lies_own encOp_len hown4 (hwl.out _)
    have hown5 : w4.ownsRow w.heap.size 50 3 (.slice (some ⟨g3, 0, none⟩) 1 cv') 1 ([(true, (1 - (h : Int)) * 96, (⟨#[]⟩ : ByteArray))].flatMap encOp) := own_below hown' hb4
    go_wp2_with (first | (at_builtin; refine wpList_grow rfl _ _ 29 rfl w4 w.heap.size 50 i0 (.agg #[.bool false, .int .i64 0, .string ⟨#[]⟩]) 32 Try.underlying29 hi hz0 hz1 hz2 rfl (by decide) encOp_len encOp_one (.slice (some ⟨g3, 0, none⟩) 1 cv') rfl 1 [(true, (1 - (h : Int)) * 96, (⟨#[]⟩ : ByteArray))] hown5 A 6 c rfl (wordsL ((1 - (h : Int)) * 96) T) LW (hwl.out _) (by decide) (by decide) HB4.size ?_; intro A' c' w5 hown6 hgrow5 hat5) | fail)
    go_ret2
    refine ⟨A', c', by rw [HAL.out]; rfl, ?_, bl_grown HB4 hgrow5 (fun g hg => by simp [Value.ownBlock] at hg; omega)⟩
    rw [HAL.out, hap.out]
    exact hown6
end Go.Proofs.Ytimnhdmpfndeaaa.Pl
end
/- Layer 8: the references' Append. -/
section
namespace Go.Proofs.Ytimnhdmpfndeaaa.Pl
open Go.RowKit Go.Proofs.Ytimnhdmpfndeaaa.Kt Go.Proofs.Ytimnhdmpfndeaaa.Lw Go.Proofs.Ytimnhdmpfndeaaa.St Go.Proofs.Ytimnhdmpfndeaaa.Nm Go.Proofs.Ytimnhdmpfndeaaa.By Go.Proofs.Ytimnhdmpfndeaaa.En Go.Proofs.Ytimnhdmpfndeaaa.Jr Go.Proofs.Ytimnhdmpfndeaaa.Im Go.Proofs.Ytimnhdmpfndeaaa.Sl Go.Proofs.Ytimnhdmpfndeaaa.Gr Go.Proofs.Ytimnhdmpfndeaaa.Ops Go.Proofs.Ytimnhdmpfndeaaa.Ch
set_option linter.unusedVariables false
set_option linter.unusedSimpArgs false
attribute [local irreducible] gotB goodB Cr.crcB nQ nS nZ nM placeB wholeB
set_option maxRecDepth 100000 in
set_option maxHeartbeats 12800000 in
theorem rappend_yes (f : ByteArray) (q s z m : Int) (w : World) (hf : f.size = 768) (hm : recMay q s z m = true) :
    Calls Try.prog 13 #[.string f, .agg #[.int .i64 q, .int .i64 s, .int .i64 z, .int .i64 m]] w (appY f q s z m w) := by
  obtain ⟨i0, hi, hz0, hz1, hz2⟩ := info_parts infoOp
  have HB := Below.refl w.heap.size w
  have K0 := Blk.new w #[.int .i64 q, .int .i64 s, .int .i64 z, .int .i64 m] 23
  have mm := Lib.hid (fun W : World => rmay_c f W (by omega))
  rw [decide_eq_true hf] at mm
  have pp := Lib.hid (fun W : World => rput_c q s z m W)
  have hv : putB q s z m = wholeB q s z m ∧ putE q s z m = 0 := by simp [putB, putE, hm]
  rw [hv.1, hv.2] at pp
  have ac := Lib.hid (fun W : World => ractive_c f W hf)
  have hl := home_lt f
  have fr := Lib.hid (fun W : World => rfree_c f (homeN f) W hf hl)
  have ht := whole_size q s z m
  have hwl := Lib.hid (fun a : Int => words24_len (a := a) ht)
  cases hao : activeO f
  · have hav := act_none hao
    rw [hav.1, hav.2] at ac
    have hh := home_none hao
    rw [hh] at fr hl
    rw [show ((0 : Nat) : Int) = 0 from rfl] at fr
    clear hav hao
    cases ho : freeO f 0 with
    | some k =>
      have hk := freeO_lt ho
      rw [freeV_some ho] at fr
      have wd := Lib.hid (fun W : World => rwords24_c (24 * (k : Int)) (wholeB q s z m) W (by omega) (by omega) (by omega) ht)
      have hap := Lib.hid (show appL f q s z m = [] ++ wordsL (24 * (k : Int)) (wholeB q s z m) by simp only [appL, headL, spotN, hh, ho])
      have hal : (appL f q s z m).length = 6 := by rw [hap.out, List.nil_append]; exact words24_len ht
      have HAL := Lib.hid hal
      clear hm hf hv ho hk ht hal hh
      generalize wholeB q s z m = T at *
      go_enter Try.func13, Try.ntmps13
      go_upto_region 14 with (first | (go_at_call 25; with_reducible refine (pp.out _).mono ?_; rintro e w' ⟨rfl, hb⟩; have HB := bl_step (w := w) (by repeat (with_reducible first | exact HB | (refine bl_set ?_ (by omega)) | apply bl_alloc | apply bl_drew | apply bl_drewN | fail)) hb; have hzB := HB.size; have K0 := Blk.on (by first | exact K0 | exact K0 #[] | exact K0 (.cells #[] 0) #[] | exact K0 #[] #[]) (by repeat (with_reducible first | exact K0 | exact K0 _ | exact K0 _ _ | apply Blk.alloc | apply Blk.drew | apply Blk.drewN | apply Blk.set4_0 | apply Blk.set4_1 | apply Blk.set4_2 | apply Blk.set4_3 | (apply Blk.off; (first | assumption | omega | (simp; omega))) | fail)) hb; (try clear cK0_0 cK0_1 cK0_2 cK0_3 fK0 lK0 nK0 mK0); obtain ⟨cK0_0, cK0_1, cK0_2, cK0_3, fK0, lK0, nK0, mK0⟩ := Blk.all4 K0) | (go_at_call 31; with_reducible refine (mm.out _).mono ?_; rintro e w' ⟨rfl, rfl⟩) | (go_at_call 18; with_reducible refine (ac.out _).mono ?_; rintro e w' ⟨rfl, hb⟩; have HB := bl_step (w := w) (by repeat (with_reducible first | exact HB | (refine bl_set ?_ (by omega)) | apply bl_alloc | apply bl_drew | apply bl_drewN | fail)) hb; have hzB := HB.size; have K0 := Blk.on (by first | exact K0 | exact K0 #[] | exact K0 (.cells #[] 0) #[] | exact K0 #[] #[]) (by repeat (with_reducible first | exact K0 | exact K0 _ | exact K0 _ _ | apply Blk.alloc | apply Blk.drew | apply Blk.drewN | apply Blk.set4_0 | apply Blk.set4_1 | apply Blk.set4_2 | apply Blk.set4_3 | (apply Blk.off; (first | assumption | omega | (simp; omega))) | fail)) hb; (try clear cK0_0 cK0_1 cK0_2 cK0_3 fK0 lK0 nK0 mK0); obtain ⟨cK0_0, cK0_1, cK0_2, cK0_3, fK0, lK0, nK0, mK0⟩ := Blk.all4 K0; have K1 := fun cs => Blk.new w' cs 40) | (go_at_call 40; with_reducible refine (fr.out _).mono ?_; rintro e w' ⟨rfl, hb⟩; have HB := bl_step (w := w) (by repeat (with_reducible first | exact HB | (refine bl_set ?_ (by omega)) | apply bl_alloc | apply bl_drew | apply bl_drewN | fail)) hb; have hzB := HB.size; have K0 := Blk.on (by first | exact K0 | exact K0 #[] | exact K0 (.cells #[] 0) #[] | exact K0 #[] #[]) (by repeat (with_reducible first | exact K0 | exact K0 _ | exact K0 _ _ | apply Blk.alloc | apply Blk.drew | apply Blk.drewN | apply Blk.set4_0 | apply Blk.set4_1 | apply Blk.set4_2 | apply Blk.set4_3 | (apply Blk.off; (first | assumption | omega | (simp; omega))) | fail)) hb; (try clear cK0_0 cK0_1 cK0_2 cK0_3 fK0 lK0 nK0 mK0); obtain ⟨cK0_0, cK0_1, cK0_2, cK0_3, fK0, lK0, nK0, mK0⟩ := Blk.all4 K0) | (go_at_call 41; (with_reducible refine (wd.out _).mono ?_); rintro e w4 ⟨A, c, rfl, hown, hb4⟩) | fail)
      have LW := lies_own encOp_len hown (hwl.out _)
      have HB4 : Below w.heap.size w w4 := bl_step (w := w) (by repeat (with_reducible first | exact HB | apply bl_alloc | apply bl_drew | fail)) hb4
      go_wp2_with (first | (at_builtin; refine wpList_grow rfl _ _ 29 rfl w4 w.heap.size 50 i0 (.agg #[.bool false, .int .i64 0, .string ⟨#[]⟩]) 32 Try.underlying29 hi hz0 hz1 hz2 rfl (by decide) encOp_len encOp_one (.slice none 0 0) rfl 0 [] (World.ownsRow_nil _ _ _ _) A 6 c rfl (wordsL (24 * (k : Int)) T) LW (hwl.out _) (by decide) (by decide) HB4.size ?_; intro A' c' w5 hown' hgrow5 hat5) | fail)
      go_ret2
      refine ⟨A', c', by rw [HAL.out]; rfl, ?_, bl_grown HB4 hgrow5 (fun g hg => by simp [Value.ownBlock] at hg)⟩
      rw [HAL.out, hap.out]
      exact hown'
    | none =>
      rw [freeV_none ho] at fr
      have wd := Lib.hid (fun W : World => rwords24_c (96) (wholeB q s z m) W (by omega) (by omega) (by omega) ht)
      have hap := Lib.hid (show appL f q s z m = [(true, 96, (⟨#[]⟩ : ByteArray))] ++ wordsL (96) (wholeB q s z m) by simp only [appL, headL, spotN, hh, ho]; rfl)
      have hal : (appL f q s z m).length = 7 := by rw [hap.out, List.length_append, words24_len ht]; rfl
      have HAL := Lib.hid hal
      clear hm hf hv ho ht hal hh
      generalize wholeB q s z m = T at *
      go_enter Try.func13, Try.ntmps13
      go_upto_region 12 with (first | (go_at_call 25; with_reducible refine (pp.out _).mono ?_; rintro e w' ⟨rfl, hb⟩; have HB := bl_step (w := w) (by repeat (with_reducible first | exact HB | (refine bl_set ?_ (by omega)) | apply bl_alloc | apply bl_drew | apply bl_drewN | fail)) hb; have hzB := HB.size; have K0 := Blk.on (by first | exact K0 | exact K0 #[] | exact K0 (.cells #[] 0) #[] | exact K0 #[] #[]) (by repeat (with_reducible first | exact K0 | exact K0 _ | exact K0 _ _ | apply Blk.alloc | apply Blk.drew | apply Blk.drewN | apply Blk.set4_0 | apply Blk.set4_1 | apply Blk.set4_2 | apply Blk.set4_3 | (apply Blk.off; (first | assumption | omega | (simp; omega))) | fail)) hb; (try clear cK0_0 cK0_1 cK0_2 cK0_3 fK0 lK0 nK0 mK0); obtain ⟨cK0_0, cK0_1, cK0_2, cK0_3, fK0, lK0, nK0, mK0⟩ := Blk.all4 K0) | (go_at_call 31; with_reducible refine (mm.out _).mono ?_; rintro e w' ⟨rfl, rfl⟩) | (go_at_call 18; with_reducible refine (ac.out _).mono ?_; rintro e w' ⟨rfl, hb⟩; have HB := bl_step (w := w) (by repeat (with_reducible first | exact HB | (refine bl_set ?_ (by omega)) | apply bl_alloc | apply bl_drew | apply bl_drewN | fail)) hb; have hzB := HB.size; have K0 := Blk.on (by first | exact K0 | exact K0 #[] | exact K0 (.cells #[] 0) #[] | exact K0 #[] #[]) (by repeat (with_reducible first | exact K0 | exact K0 _ | exact K0 _ _ | apply Blk.alloc | apply Blk.drew | apply Blk.drewN | apply Blk.set4_0 | apply Blk.set4_1 | apply Blk.set4_2 | apply Blk.set4_3 | (apply Blk.off; (first | assumption | omega | (simp; omega))) | fail)) hb; (try clear cK0_0 cK0_1 cK0_2 cK0_3 fK0 lK0 nK0 mK0); obtain ⟨cK0_0, cK0_1, cK0_2, cK0_3, fK0, lK0, nK0, mK0⟩ := Blk.all4 K0; have K1 := fun cs => Blk.new w' cs 40) | (go_at_call 40; with_reducible refine (fr.out _).mono ?_; rintro e w' ⟨rfl, hb⟩; have HB := bl_step (w := w) (by repeat (with_reducible first | exact HB | (refine bl_set ?_ (by omega)) | apply bl_alloc | apply bl_drew | apply bl_drewN | fail)) hb; have hzB := HB.size; have K0 := Blk.on (by first | exact K0 | exact K0 #[] | exact K0 (.cells #[] 0) #[] | exact K0 #[] #[]) (by repeat (with_reducible first | exact K0 | exact K0 _ | exact K0 _ _ | apply Blk.alloc | apply Blk.drew | apply Blk.drewN | apply Blk.set4_0 | apply Blk.set4_1 | apply Blk.set4_2 | apply Blk.set4_3 | (apply Blk.off; (first | assumption | omega | (simp; omega))) | fail)) hb; (try clear cK0_0 cK0_1 cK0_2 cK0_3 fK0 lK0 nK0 mK0); obtain ⟨cK0_0, cK0_1, cK0_2, cK0_3, fK0, lK0, nK0, mK0⟩ := Blk.all4 K0) | fail)
      go_upto_region 13 with (first | (at_builtin; refine wpList_append_own _ rfl _ _ 29 rfl w.heap.size 50 i0 (.agg #[.bool false, .int .i64 0, .string ⟨#[]⟩]) 3 32 Try.underlying29 hi hz0 hz1 hz2 rfl (by decide) _ _ _ rfl (World.ownsRow_nil _ _ _ _) ⟨w'.heap.size, 0, none⟩ 1 1 [.bool true, .int .i64 (96), .string ⟨#[]⟩] rfl rfl (cells_new _ _ _) (fun x hx => by simp at hx; rcases hx with rfl | rfl | rfl <;> rfl) (by decide) (by decide) (by have := HB.size; simp; omega) ?_; intro v' w3 hown' hgrow3 hnil3) | fail)
      obtain ⟨⟨g3, cv', rfl, hcv⟩, hb3⟩ := row_stepz (by decide) (World.ownsRow_nil _ _ _ _) hown' hgrow3 HB
      have hg3 : w.heap.size ≤ g3 := (hown'.lt g3 rfl).1
      go_upto_region 14 with (first | (go_at_call 41; (with_reducible refine (wd.out _).mono ?_); rintro e w4 ⟨A, c, rfl, hown4, hb4⟩) | fail)
      have HB4 := bl_step hb3 hb4
      have LW := lies_own encOp_len hown4 (hwl.out _)
      have hown5 : w4.ownsRow w.heap.size 50 3 (.slice (some ⟨g3, 0, none⟩) 1 cv') 1 ([(true, 96, (⟨#[]⟩ : ByteArray))].flatMap encOp) := own_below hown' hb4
      go_wp2_with (first | (at_builtin; refine wpList_grow rfl _ _ 29 rfl w4 w.heap.size 50 i0 (.agg #[.bool false, .int .i64 0, .string ⟨#[]⟩]) 32 Try.underlying29 hi hz0 hz1 hz2 rfl (by decide) encOp_len encOp_one (.slice (some ⟨g3, 0, none⟩) 1 cv') rfl 1 [(true, 96, (⟨#[]⟩ : ByteArray))] hown5 A 6 c rfl (wordsL (96) T) LW (hwl.out _) (by decide) (by decide) HB4.size ?_; intro A' c' w5 hown6 hgrow5 hat5) | fail)
      go_ret2
      refine ⟨A', c', by rw [HAL.out]; rfl, ?_, bl_grown HB4 hgrow5 (fun g hg => by simp [Value.ownBlock] at hg; omega)⟩
      rw [HAL.out, hap.out]
      exact hown6
  · rename_i p
    have hav := act_some hao
    rw [hav.1, hav.2] at ac
    obtain ⟨hr0, hr1⟩ := (act_ok hao).at_rng
    have hh : p.at_ / 96 = (homeN f : Int) := by rw [home_some hao]; omega
    clear hav hao
    cases ho : freeO f (homeN f) with
    | some k =>
      have hk := freeO_lt ho
      rw [freeV_some ho] at fr
      have wd := Lib.hid (fun W : World => rwords24_c (24 * (k : Int)) (wholeB q s z m) W (by omega) (by omega) (by omega) ht)
      have hap := Lib.hid (show appL f q s z m = [] ++ wordsL (24 * (k : Int)) (wholeB q s z m) by simp only [appL, headL, spotN, ho])
      have hal : (appL f q s z m).length = 6 := by rw [hap.out, List.nil_append]; exact words24_len ht
      have HAL := Lib.hid hal
      clear hm hf hv ho hk ht hal
      generalize homeN f = h at *
      generalize wholeB q s z m = T at *
      go_enter Try.func13, Try.ntmps13
      go_upto_region 14 with (first | (go_at_call 25; with_reducible refine (pp.out _).mono ?_; rintro e w' ⟨rfl, hb⟩; have HB := bl_step (w := w) (by repeat (with_reducible first | exact HB | (refine bl_set ?_ (by omega)) | apply bl_alloc | apply bl_drew | apply bl_drewN | fail)) hb; have hzB := HB.size; have K0 := Blk.on (by first | exact K0 | exact K0 #[] | exact K0 (.cells #[] 0) #[] | exact K0 #[] #[]) (by repeat (with_reducible first | exact K0 | exact K0 _ | exact K0 _ _ | apply Blk.alloc | apply Blk.drew | apply Blk.drewN | apply Blk.set4_0 | apply Blk.set4_1 | apply Blk.set4_2 | apply Blk.set4_3 | (apply Blk.off; (first | assumption | omega | (simp; omega))) | fail)) hb; (try clear cK0_0 cK0_1 cK0_2 cK0_3 fK0 lK0 nK0 mK0); obtain ⟨cK0_0, cK0_1, cK0_2, cK0_3, fK0, lK0, nK0, mK0⟩ := Blk.all4 K0) | (go_at_call 31; with_reducible refine (mm.out _).mono ?_; rintro e w' ⟨rfl, rfl⟩) | (go_at_call 18; with_reducible refine (ac.out _).mono ?_; rintro e w' ⟨rfl, hb⟩; have HB := bl_step (w := w) (by repeat (with_reducible first | exact HB | (refine bl_set ?_ (by omega)) | apply bl_alloc | apply bl_drew | apply bl_drewN | fail)) hb; have hzB := HB.size; have K0 := Blk.on (by first | exact K0 | exact K0 #[] | exact K0 (.cells #[] 0) #[] | exact K0 #[] #[]) (by repeat (with_reducible first | exact K0 | exact K0 _ | exact K0 _ _ | apply Blk.alloc | apply Blk.drew | apply Blk.drewN | apply Blk.set4_0 | apply Blk.set4_1 | apply Blk.set4_2 | apply Blk.set4_3 | (apply Blk.off; (first | assumption | omega | (simp; omega))) | fail)) hb; (try clear cK0_0 cK0_1 cK0_2 cK0_3 fK0 lK0 nK0 mK0); obtain ⟨cK0_0, cK0_1, cK0_2, cK0_3, fK0, lK0, nK0, mK0⟩ := Blk.all4 K0; have K1 := fun cs => Blk.new w' cs 40) | (go_at_call 40; with_reducible refine (fr.out _).mono ?_; rintro e w' ⟨rfl, hb⟩; have HB := bl_step (w := w) (by repeat (with_reducible first | exact HB | (refine bl_set ?_ (by omega)) | apply bl_alloc | apply bl_drew | apply bl_drewN | fail)) hb; have hzB := HB.size; have K0 := Blk.on (by first | exact K0 | exact K0 #[] | exact K0 (.cells #[] 0) #[] | exact K0 #[] #[]) (by repeat (with_reducible first | exact K0 | exact K0 _ | exact K0 _ _ | apply Blk.alloc | apply Blk.drew | apply Blk.drewN | apply Blk.set4_0 | apply Blk.set4_1 | apply Blk.set4_2 | apply Blk.set4_3 | (apply Blk.off; (first | assumption | omega | (simp; omega))) | fail)) hb; (try clear cK0_0 cK0_1 cK0_2 cK0_3 fK0 lK0 nK0 mK0); obtain ⟨cK0_0, cK0_1, cK0_2, cK0_3, fK0, lK0, nK0, mK0⟩ := Blk.all4 K0) | (go_at_call 41; (with_reducible refine (wd.out _).mono ?_); rintro e w4 ⟨A, c, rfl, hown, hb4⟩) | fail)
      have LW := lies_own encOp_len hown (hwl.out _)
      have HB4 : Below w.heap.size w w4 := bl_step (w := w) (by repeat (with_reducible first | exact HB | apply bl_alloc | apply bl_drew | fail)) hb4
      go_wp2_with (first | (at_builtin; refine wpList_grow rfl _ _ 29 rfl w4 w.heap.size 50 i0 (.agg #[.bool false, .int .i64 0, .string ⟨#[]⟩]) 32 Try.underlying29 hi hz0 hz1 hz2 rfl (by decide) encOp_len encOp_one (.slice none 0 0) rfl 0 [] (World.ownsRow_nil _ _ _ _) A 6 c rfl (wordsL (24 * (k : Int)) T) LW (hwl.out _) (by decide) (by decide) HB4.size ?_; intro A' c' w5 hown' hgrow5 hat5) | fail)
      go_ret2
      refine ⟨A', c', by rw [HAL.out]; rfl, ?_, bl_grown HB4 hgrow5 (fun g hg => by simp [Value.ownBlock] at hg)⟩
      rw [HAL.out, hap.out]
      exact hown'
    | none =>
      rw [freeV_none ho] at fr
      have wd := Lib.hid (fun W : World => rwords24_c ((1 - (homeN f : Int)) * 96) (wholeB q s z m) W (by omega) (by omega) (by omega) ht)
      have hap := Lib.hid (show appL f q s z m = [(true, (1 - (homeN f : Int)) * 96, (⟨#[]⟩ : ByteArray))] ++ wordsL ((1 - (homeN f : Int)) * 96) (wholeB q s z m) by simp only [appL, headL, spotN, ho])
      have hal : (appL f q s z m).length = 7 := by rw [hap.out, List.length_append, words24_len ht]; rfl
      have HAL := Lib.hid hal
      clear hm hf hv ho ht hal
      generalize homeN f = h at *
      generalize wholeB q s z m = T at *
      go_enter Try.func13, Try.ntmps13
      go_upto_region 12 with (first | (go_at_call 25; with_reducible refine (pp.out _).mono ?_; rintro e w' ⟨rfl, hb⟩; have HB := bl_step (w := w) (by repeat (with_reducible first | exact HB | (refine bl_set ?_ (by omega)) | apply bl_alloc | apply bl_drew | apply bl_drewN | fail)) hb; have hzB := HB.size; have K0 := Blk.on (by first | exact K0 | exact K0 #[] | exact K0 (.cells #[] 0) #[] | exact K0 #[] #[]) (by repeat (with_reducible first | exact K0 | exact K0 _ | exact K0 _ _ | apply Blk.alloc | apply Blk.drew | apply Blk.drewN | apply Blk.set4_0 | apply Blk.set4_1 | apply Blk.set4_2 | apply Blk.set4_3 | (apply Blk.off; (first | assumption | omega | (simp; omega))) | fail)) hb; (try clear cK0_0 cK0_1 cK0_2 cK0_3 fK0 lK0 nK0 mK0); obtain ⟨cK0_0, cK0_1, cK0_2, cK0_3, fK0, lK0, nK0, mK0⟩ := Blk.all4 K0) | (go_at_call 31; with_reducible refine (mm.out _).mono ?_; rintro e w' ⟨rfl, rfl⟩) | (go_at_call 18; with_reducible refine (ac.out _).mono ?_; rintro e w' ⟨rfl, hb⟩; have HB := bl_step (w := w) (by repeat (with_reducible first | exact HB | (refine bl_set ?_ (by omega)) | apply bl_alloc | apply bl_drew | apply bl_drewN | fail)) hb; have hzB := HB.size; have K0 := Blk.on (by first | exact K0 | exact K0 #[] | exact K0 (.cells #[] 0) #[] | exact K0 #[] #[]) (by repeat (with_reducible first | exact K0 | exact K0 _ | exact K0 _ _ | apply Blk.alloc | apply Blk.drew | apply Blk.drewN | apply Blk.set4_0 | apply Blk.set4_1 | apply Blk.set4_2 | apply Blk.set4_3 | (apply Blk.off; (first | assumption | omega | (simp; omega))) | fail)) hb; (try clear cK0_0 cK0_1 cK0_2 cK0_3 fK0 lK0 nK0 mK0); obtain ⟨cK0_0, cK0_1, cK0_2, cK0_3, fK0, lK0, nK0, mK0⟩ := Blk.all4 K0; have K1 := fun cs => Blk.new w' cs 40) | (go_at_call 40; with_reducible refine (fr.out _).mono ?_; rintro e w' ⟨rfl, hb⟩; have HB := bl_step (w := w) (by repeat (with_reducible first | exact HB | (refine bl_set ?_ (by omega)) | apply bl_alloc | apply bl_drew | apply bl_drewN | fail)) hb; have hzB := HB.size; have K0 := Blk.on (by first | exact K0 | exact K0 #[] | exact K0 (.cells #[] 0) #[] | exact K0 #[] #[]) (by repeat (with_reducible first | exact K0 | exact K0 _ | exact K0 _ _ | apply Blk.alloc | apply Blk.drew | apply Blk.drewN | apply Blk.set4_0 | apply Blk.set4_1 | apply Blk.set4_2 | apply Blk.set4_3 | (apply Blk.off; (first | assumption | omega | (simp; omega))) | fail)) hb; (try clear cK0_0 cK0_1 cK0_2 cK0_3 fK0 lK0 nK0 mK0); obtain ⟨cK0_0, cK0_1, cK0_2, cK0_3, fK0, lK0, nK0, mK0⟩ := Blk.all4 K0) | fail)
      go_upto_region 13 with (first | (at_builtin; refine wpList_append_own _ rfl _ _ 29 rfl w.heap.size 50 i0 (.agg #[.bool false, .int .i64 0, .string ⟨#[]⟩]) 3 32 Try.underlying29 hi hz0 hz1 hz2 rfl (by decide) _ _ _ rfl (World.ownsRow_nil _ _ _ _) ⟨w'.heap.size, 0, none⟩ 1 1 [.bool true, .int .i64 ((1 - (h : Int)) * 96), .string ⟨#[]⟩] rfl rfl (cells_new _ _ _) (fun x hx => by simp at hx; rcases hx with rfl | rfl | rfl <;> rfl) (by decide) (by decide) (by have := HB.size; simp; omega) ?_; intro v' w3 hown' hgrow3 hnil3) | fail)
      obtain ⟨⟨g3, cv', rfl, hcv⟩, hb3⟩ := row_stepz (by decide) (World.ownsRow_nil _ _ _ _) hown' hgrow3 HB
      have hg3 : w.heap.size ≤ g3 := (hown'.lt g3 rfl).1
      go_upto_region 14 with (first | (go_at_call 41; (with_reducible refine (wd.out _).mono ?_); rintro e w4 ⟨A, c, rfl, hown4, hb4⟩) | fail)
      have HB4 := bl_step hb3 hb4
      have LW := lies_own encOp_len hown4 (hwl.out _)
      have hown5 : w4.ownsRow w.heap.size 50 3 (.slice (some ⟨g3, 0, none⟩) 1 cv') 1 ([(true, (1 - (h : Int)) * 96, (⟨#[]⟩ : ByteArray))].flatMap encOp) := own_below hown' hb4
      go_wp2_with (first | (at_builtin; refine wpList_grow rfl _ _ 29 rfl w4 w.heap.size 50 i0 (.agg #[.bool false, .int .i64 0, .string ⟨#[]⟩]) 32 Try.underlying29 hi hz0 hz1 hz2 rfl (by decide) encOp_len encOp_one (.slice (some ⟨g3, 0, none⟩) 1 cv') rfl 1 [(true, (1 - (h : Int)) * 96, (⟨#[]⟩ : ByteArray))] hown5 A 6 c rfl (wordsL ((1 - (h : Int)) * 96) T) LW (hwl.out _) (by decide) (by decide) HB4.size ?_; intro A' c' w5 hown6 hgrow5 hat5) | fail)
      go_ret2
      refine ⟨A', c', by rw [HAL.out]; rfl, ?_, bl_grown HB4 hgrow5 (fun g hg => by simp [Value.ownBlock] at hg; omega)⟩
      rw [HAL.out, hap.out]
      exact hown6
end Go.Proofs.Ytimnhdmpfndeaaa.Pl
end
/- Layer 9: the next record, of what stands in a slot: what the references' RecordOf answers. -/
section
namespace Go.Proofs.Ytimnhdmpfndeaaa.Pl
open Go.RowKit Go.Proofs.Ytimnhdmpfndeaaa.Kt Go.Proofs.Ytimnhdmpfndeaaa.Lw Go.Proofs.Ytimnhdmpfndeaaa.St Go.Proofs.Ytimnhdmpfndeaaa.Nm Go.Proofs.Ytimnhdmpfndeaaa.By Go.Proofs.Ytimnhdmpfndeaaa.En Go.Proofs.Ytimnhdmpfndeaaa.Jr Go.Proofs.Ytimnhdmpfndeaaa.Im Go.Proofs.Ytimnhdmpfndeaaa.Sl Go.Proofs.Ytimnhdmpfndeaaa.Ch
set_option linter.unusedVariables false
set_option linter.unusedSimpArgs false
attribute [local irreducible] gotB goodB Cr.crcB nQ nS nZ nM placeB
def recOk (f : ByteArray) (s z : Int) : Bool := decide (f.size = 768) && (rngB s 0 1 && rngB z 1 288)
def recV (f : ByteArray) (s z : Int) : Array Value := if recOk f s z = true ∧ ¬ maxL (scanL f) = 1048576 then #[.int .i64 (maxL (scanL f) + 1), .int .i64 s, .int .i64 z, .int .i64 (Cr.crcB (imgB f s z))] else #[.int .i64 0, .int .i64 0, .int .i64 0, .int .i64 0]
def recE (f : ByteArray) (s z : Int) : Int := if recOk f s z = true then (if maxL (scanL f) = 1048576 then 801 else 0) else 900
theorem rbase_no (s : Int) (w : World) (h : rngB s 0 1 = false) : Calls Try.prog 43 #[.int .i64 s] w fun e w' => e = .returned (.tuple #[.int .i64 0, .int .i64 600]) ∧ w = w' := by
  have uu := Lib.hid (fun W : World => upTo_c s 0 1 W)
  rw [h] at uu
  clear h
  go_enter Try.func43, Try.ntmps43
  go_wp2_with (first | (go_at_call 44; with_reducible refine (uu.out _).mono ?_; rintro e w' ⟨rfl, rfl⟩) | fail)
  go_ret2
  exact ⟨rfl, rfl⟩
theorem max_all (f : ByteArray) : 0 ≤ maxL (scanL f) ∧ maxL (scanL f) ≤ 1048576 := by
  have h := max_bd (f := f) (scanL f).length
  rwa [List.take_length] at h
set_option maxRecDepth 100000 in
set_option maxHeartbeats 6400000 in
theorem rrec_c (f : ByteArray) (s z : Int) (w : World) (h : f.size ≤ 9223372036854775807) : Calls Try.prog 19 #[.string f, .int .i64 s, .int .i64 z] w fun e w' => e = .returned (.tuple #[.agg (recV f s z), .int .i64 (recE f s z)]) ∧ Below w.heap.size w w' := by
  have HB := Below.refl w.heap.size w
  have K0 := Blk.new w #[.int .i64 0, .int .i64 0, .int .i64 0, .int .i64 0] 23
  have mm := Lib.hid (fun W : World => rmay_c f W h)
  cases hs : rngB s 0 1
  · have bb := Lib.hid (fun W : World => rbase_no s W hs)
    have hv := Lib.hid (show recV f s z = #[.int .i64 0, .int .i64 0, .int .i64 0, .int .i64 0] ∧ recE f s z = 900 by simp [recV, recE, recOk, hs])
    clear hs
    by_cases hf : f.size = 768
    · rw [decide_eq_true hf] at mm
      clear hf
      go_enter Try.func19, Try.ntmps19
      go_wp2_with (first | (go_at_call 43; with_reducible refine (bb.out _).mono ?_; rintro e w' ⟨rfl, rfl⟩) | (go_at_call 31; with_reducible refine (mm.out _).mono ?_; rintro e w' ⟨rfl, rfl⟩) | fail)
      exact bodyPost_ret (v := .tuple #[.agg #[.int .i64 0, .int .i64 0, .int .i64 0, .int .i64 0], .int .i64 900]) (by simp [results, Try.results19, go_sem, *]) rfl ⟨by rw [hv.out.1, hv.out.2], (by repeat (with_reducible first | exact Below.refl _ _ | assumption | (refine bl_set ?_ (by omega)) | apply bl_alloc | apply bl_drewN | apply bl_drew | (refine bl_step ?_ (by assumption)) | fail))⟩
    · rw [decide_eq_false hf] at mm
      clear hf
      go_enter Try.func19, Try.ntmps19
      go_wp2_with (first | (go_at_call 43; with_reducible refine (bb.out _).mono ?_; rintro e w' ⟨rfl, rfl⟩) | (go_at_call 31; with_reducible refine (mm.out _).mono ?_; rintro e w' ⟨rfl, rfl⟩) | fail)
      exact bodyPost_ret (v := .tuple #[.agg #[.int .i64 0, .int .i64 0, .int .i64 0, .int .i64 0], .int .i64 900]) (by simp [results, Try.results19, go_sem, *]) rfl ⟨by rw [hv.out.1, hv.out.2], (by repeat (with_reducible first | exact Below.refl _ _ | assumption | (refine bl_set ?_ (by omega)) | apply bl_alloc | apply bl_drewN | apply bl_drew | (refine bl_step ?_ (by assumption)) | fail))⟩
  · have hs' : 0 ≤ s ∧ s ≤ 1 := by simpa [rngB] using hs
    have bb := Lib.hid (fun W : World => rbase_c s W hs'.1 hs'.2)
    have uu := Lib.hid (fun W : World => upTo_c z 1 288 W)
    by_cases hf : f.size = 768
    · rw [decide_eq_true hf] at mm
      cases hz : rngB z 1 288
      · have hv := Lib.hid (show recV f s z = #[.int .i64 0, .int .i64 0, .int .i64 0, .int .i64 0] ∧ recE f s z = 900 by simp [recV, recE, recOk, hz])
        rw [hz] at uu
        clear hf hz hs hs'
        go_enter Try.func19, Try.ntmps19
        go_wp2_with (first | (go_at_call 43; with_reducible refine (bb.out _).mono ?_; rintro e w' ⟨rfl, rfl⟩) | (go_at_call 31; with_reducible refine (mm.out _).mono ?_; rintro e w' ⟨rfl, rfl⟩) | (go_at_call 44; with_reducible refine (uu.out _).mono ?_; rintro e w' ⟨rfl, rfl⟩) | fail)
        exact bodyPost_ret (v := .tuple #[.agg #[.int .i64 0, .int .i64 0, .int .i64 0, .int .i64 0], .int .i64 900]) (by simp [results, Try.results19, go_sem, *]) rfl ⟨by rw [hv.out.1, hv.out.2], (by repeat (with_reducible first | exact Below.refl _ _ | assumption | (refine bl_set ?_ (by omega)) | apply bl_alloc | apply bl_drewN | apply bl_drew | (refine bl_step ?_ (by assumption)) | fail))⟩
      · have hz' : 1 ≤ z ∧ z ≤ 288 := by simpa [rngB] using hz
        have hok : recOk f s z = true := by simp [recOk, hf, hs, hz]
        rw [hz] at uu
        have nn := Lib.hid (fun W : World => rnext_c f W h)
        by_cases hm : maxL (scanL f) = 1048576
        · have hv := Lib.hid (show recV f s z = #[.int .i64 0, .int .i64 0, .int .i64 0, .int .i64 0] ∧ recE f s z = 801 by simp [recV, recE, hok, hm])
          rw [next_full hf hm] at nn
          clear hf hz hs hs' hz' hok hm
          go_enter Try.func19, Try.ntmps19
          go_wp2_with (first | (go_at_call 43; with_reducible refine (bb.out _).mono ?_; rintro e w' ⟨rfl, rfl⟩) | (go_at_call 31; with_reducible refine (mm.out _).mono ?_; rintro e w' ⟨rfl, rfl⟩) | (go_at_call 44; with_reducible refine (uu.out _).mono ?_; rintro e w' ⟨rfl, rfl⟩) | (go_at_call 11; with_reducible refine (nn.out _).mono ?_; rintro e w' ⟨rfl, hb⟩; have HB := bl_step (w := w) (by repeat (with_reducible first | exact HB | (refine bl_set ?_ (by omega)) | apply bl_alloc | apply bl_drew | apply bl_drewN | fail)) hb; have hzB := HB.size; have K0 := Blk.on (by first | exact K0 | exact K0 #[] | exact K0 (.cells #[] 0) #[] | exact K0 #[] #[]) (by repeat (with_reducible first | exact K0 | exact K0 _ | exact K0 _ _ | apply Blk.alloc | apply Blk.drew | apply Blk.drewN | apply Blk.set4_0 | apply Blk.set4_1 | apply Blk.set4_2 | apply Blk.set4_3 | (apply Blk.off; (first | assumption | omega | (simp; omega))) | fail)) hb; (try clear cK0_0 cK0_1 cK0_2 cK0_3 fK0 lK0 nK0 mK0); obtain ⟨cK0_0, cK0_1, cK0_2, cK0_3, fK0, lK0, nK0, mK0⟩ := Blk.all4 K0) | fail)
          exact bodyPost_ret (v := .tuple #[.agg #[.int .i64 0, .int .i64 0, .int .i64 0, .int .i64 0], .int .i64 801]) (by simp [results, Try.results19, go_sem, *]) rfl ⟨by rw [hv.out.1, hv.out.2], (by repeat (with_reducible first | exact Below.refl _ _ | assumption | (refine bl_set ?_ (by omega)) | apply bl_alloc | apply bl_drewN | apply bl_drew | (refine bl_step ?_ (by assumption)) | fail))⟩
        · have hv := Lib.hid (show recV f s z = #[.int .i64 (maxL (scanL f) + 1), .int .i64 s, .int .i64 z, .int .i64 (Cr.crcB (imgB f s z))] ∧ recE f s z = 0 by simp [recV, recE, hok, hm])
          rw [next_one hf hm] at nn
          obtain ⟨n, rfl⟩ := Int.eq_ofNat_of_zero_le (show 0 ≤ z by omega)
          obtain ⟨b1, b2⟩ := base_le hs'.1 hs'.2
          have cr := Lib.hid (fun W : World => Cr.rcrc_c (imgB f s (n : Int)) W (by have := img_size f s (n : Int); omega))
          have hi : f.extract (baseN s) (baseN s + n) = imgB f s (n : Int) := rfl
          have hn := hz'.2
          generalize imgB f s (n : Int) = I at *
          generalize baseN s = b at *
          have h1 : b + n ≤ f.size := by omega
          have h2 : (b : Int) + (n : Int) ≤ (f.size : Int) := by omega
          have h3 : b ≤ f.size := by omega
          clear hf hz hs hs' hz' hok hm
          go_enter Try.func19, Try.ntmps19
          go_wp2_with (first | (go_at_call 43; with_reducible refine (bb.out _).mono ?_; rintro e w' ⟨rfl, rfl⟩) | (go_at_call 31; with_reducible refine (mm.out _).mono ?_; rintro e w' ⟨rfl, rfl⟩) | (go_at_call 44; with_reducible refine (uu.out _).mono ?_; rintro e w' ⟨rfl, rfl⟩) | (go_at_call 11; with_reducible refine (nn.out _).mono ?_; rintro e w' ⟨rfl, hb⟩; have HB := bl_step (w := w) (by repeat (with_reducible first | exact HB | (refine bl_set ?_ (by omega)) | apply bl_alloc | apply bl_drew | apply bl_drewN | fail)) hb; have hzB := HB.size; have K0 := Blk.on (by first | exact K0 | exact K0 #[] | exact K0 (.cells #[] 0) #[] | exact K0 #[] #[]) (by repeat (with_reducible first | exact K0 | exact K0 _ | exact K0 _ _ | apply Blk.alloc | apply Blk.drew | apply Blk.drewN | apply Blk.set4_0 | apply Blk.set4_1 | apply Blk.set4_2 | apply Blk.set4_3 | (apply Blk.off; (first | assumption | omega | (simp; omega))) | fail)) hb; (try clear cK0_0 cK0_1 cK0_2 cK0_3 fK0 lK0 nK0 mK0); obtain ⟨cK0_0, cK0_1, cK0_2, cK0_3, fK0, lK0, nK0, mK0⟩ := Blk.all4 K0) | (go_at_call 45; with_reducible refine (cr.out _).mono ?_; rintro e w' ⟨rfl, rfl⟩) | fail)
          exact bodyPost_ret (v := .tuple #[.agg #[.int .i64 (maxL (scanL f) + 1), .int .i64 s, .int .i64 (n : Int), .int .i64 (Cr.crcB I)], .int .i64 0]) (by simp [results, Try.results19, go_sem, *]) rfl ⟨by rw [hv.out.1, hv.out.2], (by repeat (with_reducible first | exact Below.refl _ _ | assumption | (refine bl_set ?_ (by omega)) | apply bl_alloc | apply bl_drewN | apply bl_drew | (refine bl_step ?_ (by assumption)) | fail))⟩
    · rw [decide_eq_false hf] at mm
      have hv := Lib.hid (show recV f s z = #[.int .i64 0, .int .i64 0, .int .i64 0, .int .i64 0] ∧ recE f s z = 900 by simp [recV, recE, recOk, hf])
      clear hf hs hs'
      go_enter Try.func19, Try.ntmps19
      go_wp2_with (first | (go_at_call 43; with_reducible refine (bb.out _).mono ?_; rintro e w' ⟨rfl, rfl⟩) | (go_at_call 31; with_reducible refine (mm.out _).mono ?_; rintro e w' ⟨rfl, rfl⟩) | fail)
      exact bodyPost_ret (v := .tuple #[.agg #[.int .i64 0, .int .i64 0, .int .i64 0, .int .i64 0], .int .i64 900]) (by simp [results, Try.results19, go_sem, *]) rfl ⟨by rw [hv.out.1, hv.out.2], (by repeat (with_reducible first | exact Below.refl _ _ | assumption | (refine bl_set ?_ (by omega)) | apply bl_alloc | apply bl_drewN | apply bl_drew | (refine bl_step ?_ (by assumption)) | fail))⟩
end Go.Proofs.Ytimnhdmpfndeaaa.Pl
end
/- Layers 2, 3: the references' flash: a word torn. -/
section
namespace Go.Proofs.Ytimnhdmpfndeaaa.Fl
open Go.RowKit Go.Proofs.Ytimnhdmpfndeaaa.Kt Go.Proofs.Ytimnhdmpfndeaaa.Lw Go.Proofs.Ytimnhdmpfndeaaa.St Go.Proofs.Ytimnhdmpfndeaaa.Nm Go.Proofs.Ytimnhdmpfndeaaa.By Go.Proofs.Ytimnhdmpfndeaaa.En Go.Proofs.Ytimnhdmpfndeaaa.Jr Go.Proofs.Ytimnhdmpfndeaaa.Ops
set_option linter.unusedVariables false
set_option linter.unusedSimpArgs false
/-- a byte whose bit k is cleared where the word's is. -/
def clrB (b w : Int) (k : Nat) : Int := if w / 2 ^ k % 2 = 0 then Go.bits .andNot .u8 b (2 ^ k % 256) else b
/-- four bytes, the first i bits of a word programmed. -/
def tearF (b w : Nat → Int) : Nat → Nat → Int
  | 0 => b
  | i + 1 => fun j => if j = i / 8 then clrB (tearF b w i j) (w j) (i % 8) else tearF b w i j
theorem andNot8 {x y : Int} (h0 : 0 ≤ x) (h1 : x < 256) : 0 ≤ Go.bits .andNot .u8 x y ∧ Go.bits .andNot .u8 x y < 256 := by
  have e : Go.bits .andNot .u8 x y = IntKind.u8.wrap (((BitVec.ofInt 8 x &&& ~~~ BitVec.ofInt 8 y).toNat : Nat) : Int) := rfl
  rw [e]
  simp only [IntKind.wrap_u8]
  omega
theorem clr_bd {b w : Int} {k : Nat} (h0 : 0 ≤ b) (h1 : b < 256) : 0 ≤ clrB b w k ∧ clrB b w k < 256 := by
  unfold clrB
  split
  · exact andNot8 h0 h1
  · exact ⟨h0, h1⟩
theorem tear_bd {b w : Nat → Int} (hb : ∀ j, 0 ≤ b j ∧ b j < 256) : ∀ i j, 0 ≤ tearF b w i j ∧ tearF b w i j < 256
  | 0, j => hb j
  | i + 1, j => by
    have ih := tear_bd (w := w) hb i j
    unfold tearF
    split
    · exact clr_bd ih.1 ih.2
    · exact ih
theorem and8 {x : Int} (h0 : 0 ≤ x) (h1 : x < 256) : Go.bits .and .u8 x 1 = x % 2 := by
  obtain ⟨a, rfl⟩ := Int.eq_ofNat_of_zero_le h0
  have e : Go.bits .and .u8 (a : Int) 1 = IntKind.u8.wrap (((BitVec.ofInt 8 (a : Int)).toNat &&& (BitVec.ofInt 8 (1 : Int)).toNat : Nat) : Int) := by
    rw [← BitVec.toNat_and]; rfl
  have ea : (BitVec.ofInt 8 (a : Int)).toNat = a := by simp; omega
  have eb : (BitVec.ofInt 8 (1 : Int)).toNat = 1 := by decide
  rw [e, ea, eb, Nat.and_one_is_mod]
  simp only [IntKind.wrap_u8]
  omega
theorem shr_bd {x : Int} (k : Nat) (h0 : 0 ≤ x) (h1 : x < 256) : 0 ≤ x / 2 ^ k ∧ x / 2 ^ k < 256 := by
  have hp : (0 : Int) < 2 ^ k := Int.pow_pos (by decide)
  refine ⟨Int.ediv_nonneg h0 (Int.le_of_lt hp), Int.lt_of_le_of_lt (Int.ediv_le_self _ h0) h1⟩
/-- the four bytes as a text. -/
def tearB (f : ByteArray) (a : Nat) (t : ByteArray) (n : Nat) : ByteArray := strOfNums ((List.range 4).map (tearF (fun j => byt f (a + j)) (byt t) n))
def tornB (f : ByteArray) (a : Nat) (t : ByteArray) (n : Nat) : ByteArray := f.extract 0 a ++ tearB f a t n ++ f.extract (a + 4) f.size
theorem tear_size (f : ByteArray) (a : Nat) (t : ByteArray) (n : Nat) : (tearB f a t n).size = 4 := by simp [tearB, strOfNums, ByteArray.size]
theorem torn_size {f : ByteArray} {a : Nat} (t : ByteArray) (n : Nat) (h : a + 4 ≤ f.size) : (tornB f a t n).size = f.size := by
  unfold tornB
  rw [ByteArray.size_append, ByteArray.size_append, tear_size, ByteArray.size_extract, ByteArray.size_extract]
  omega
theorem byt_ex (f : ByteArray) (a b j : Nat) (h : a + j < b) (hb : b ≤ f.size) : byt (f.extract a b) j = byt f (a + j) := by
  have hl : f.data.toList.length = f.size := by rw [Array.length_toList]; rfl
  unfold byt
  congr 1
  simp only [ByteArray.data_extract, Array.toList_extract, List.extract, List.getD_eq_getElem?_getD]
  rw [List.getElem?_take, if_pos (by omega), List.getElem?_drop]
theorem byt_tear (f : ByteArray) (a : Nat) (t : ByteArray) (n : Nat) {j : Nat} (h : j < 4) : byt (tearB f a t n) j = tearF (fun j => byt f (a + j)) (byt t) n j := by
  have hb := tear_bd (b := fun j => byt f (a + j)) (w := byt t) (fun j => byt_bd f _) n j
  unfold byt tearB
  simp only [strOfNums, List.getD_eq_getElem?_getD, List.map_map, List.getElem?_map, List.getElem?_range h, Option.map_some, Option.getD_some]
  exact byte_back _ hb.1 hb.2
set_option maxRecDepth 100000 in
set_option maxHeartbeats 6400000 in
theorem rtorn_c (f : ByteArray) (a : Nat) (t : ByteArray) (n : Nat) (w : World) (hf : f.size = 768) (ha : a + 4 ≤ 768) (a4 : a % 4 = 0) (ht : t.size = 4) (hn : n ≤ 32) :
    Calls Try.prog 48 #[.string f, .int .i64 a, .string t, .int .i64 n] w fun e w' => e = .returned (.tuple #[.string (tornB f a t n), .int .i64 0]) ∧ Below w.heap.size w w' := by
  have HB := Below.refl w.heap.size w
  have mm := Lib.hid (fun W : World => rmay_c f W (by omega))
  rw [decide_eq_true hf] at mm
  have wa := Lib.hid (fun W : World => wordAt_c (a : Int) W)
  rw [show bgnB (a : Int) = true by simp [bgnB, rngB]; omega] at wa
  have uu := Lib.hid (fun W : World => upTo_c (n : Int) 0 32 W)
  rw [show rngB (n : Int) 0 32 = true by simp [rngB]; omega] at uu
  have hex : (f.extract a (a + 4)).size = 4 := by rw [ByteArray.size_extract]; omega
  have r1 := fun W : World => run_bytes W (f.extract a (a + 4))
  rw [hex] at r1
  have h1 : (a : Int) + 4 ≤ (f.size : Int) := by omega
  have h2 : a ≤ f.size := by omega
  have h3 : a + 4 ≤ f.size := by omega
  have HEX := Lib.hid hex
  have HF := Lib.hid hf
  have HT := Lib.hid ht
  have BX := Lib.hid (fun j (hj : j < 4) => byt_ex f a (a + 4) j (by omega) (by omega))
  clear hf ht a4 hex
  have ht4 : ((t.size : Int) != 4) = false := by simp [HT.out]
  go_enter Try.func48, Try.ntmps48
  go_wp2_with (first | (go_at_call 31; with_reducible refine (mm.out _).mono ?_; rintro e w' ⟨rfl, rfl⟩) | (go_at_call 46; with_reducible refine (wa.out _).mono ?_; rintro e w' ⟨rfl, rfl⟩) | (go_at_call 44; with_reducible refine (uu.out _).mono ?_; rintro e w' ⟨rfl, rfl⟩) | fail)
  generalize f.extract a (a + 4) = X at *
  have hc : Aside (∀ j, j < 4 → ((w.alloc (.cells (bytesRow X (grownCap w 4 0 5)) 5 ((bytesRow X (grownCap w 4 0 5)).size, (bytesRow X (grownCap w 4 0 5)).size + 1))).drew).cell? ⟨w.heap.size, j, none⟩ = some (.int .u8 (tearF (fun j => byt f (a + j)) (byt t) 0 j))) := fun j hj => by
    show _ = some (Value.int .u8 (byt f (a + j)))
    rw [← BX.out j hj]
    exact bytes_cell w X _ j _ (by rw [HEX.out]; exact hj)
  have hfr : Aside (∀ j, j < 4 → ((w.alloc (.cells (bytesRow X (grownCap w 4 0 5)) 5 ((bytesRow X (grownCap w 4 0 5)).size, (bytesRow X (grownCap w 4 0 5)).size + 1))).drew).frozen? ⟨w.heap.size, j, none⟩ = false) := fun j hj => bytes_frozen w X _ j (by rw [HEX.out]; exact hj)
  have HB1 : Below w.heap.size w ((w.alloc (.cells (bytesRow X (grownCap w 4 0 5)) 5 ((bytesRow X (grownCap w 4 0 5)).size, (bytesRow X (grownCap w 4 0 5)).size + 1))).drew) := bl_drew (bl_alloc HB _)
  have hlt1 : w.heap.size < ((w.alloc (.cells (bytesRow X (grownCap w 4 0 5)) 5 ((bytesRow X (grownCap w 4 0 5)).size, (bytesRow X (grownCap w 4 0 5)).size + 1))).drew).heap.size := by simp
  generalize (w.alloc (.cells (bytesRow X (grownCap w 4 0 5)) 5 ((bytesRow X (grownCap w 4 0 5)).size, (bytesRow X (grownCap w 4 0 5)).size + 1))).drew = w1 at *
  generalize grownCap w 4 0 5 = cap at *
  clear r1 HB mm wa uu ht4
  go_loopg [11] n (fun gg s11 wr => ∃ i : Nat, i ≤ n ∧ n - i ≤ gg ∧ s11 = .int .i64 i ∧ Aside (∀ j, j < 4 → wr.cell? ⟨w.heap.size, j, none⟩ = some (.int .u8 (tearF (fun j => byt f (a + j)) (byt t) i j))) ∧ Aside (∀ j, j < 4 → wr.frozen? ⟨w.heap.size, j, none⟩ = false) ∧ Aside (Below w.heap.size w wr) ∧ Aside (w.heap.size < wr.heap.size))
  case atStart => exact ⟨0, by omega, by omega, rfl, hc, hfr, HB1, hlt1⟩
  case round =>
    clear hc hfr HB1 hlt1 w1
    obtain ⟨i, hi, hg, rfl, C, FR, BW, BZ⟩ := hrel
    have HB := BW.out
    by_cases hlt : i < n
    · obtain ⟨j, hj⟩ : ∃ j, j = i / 8 := ⟨_, rfl⟩
      obtain ⟨k, hk⟩ : ∃ k, k = i % 8 := ⟨_, rfl⟩
      have hj4 : j < 4 := by omega
      have hk8 : k < 8 := by omega
      have q1 : (i : Int) / 8 = (j : Int) := by omega
      have q2 : (i : Int) % 8 = (k : Int) := by omega
      have HJ := Lib.hid hj
      have HK := Lib.hid hk
      have hcell := C.out j hj4
      have hfz := FR.out j hj4
      have hsz := BZ.out
      have htl : j < t.size := by have := HT.out; omega
      have e0 := byt_at t j htl
      have hy := byt_bd t j
      have hx := tear_bd (b := fun j => byt f (a + j)) (w := byt t) (fun j => byt_bd f _) i j
      have HN := Lib.hid (show ∀ m, tearF (fun j => byt f (a + j)) (byt t) (i + 1) m = if m = j then clrB (tearF (fun j => byt f (a + j)) (byt t) i j) (byt t j) k else tearF (fun j => byt f (a + j)) (byt t) i m from fun m => by
        rw [HJ.out, HK.out]
        show (if m = i / 8 then _ else _) = _
        by_cases e : m = i / 8
        · rw [if_pos e, if_pos e, e]
        · rw [if_neg e, if_neg e])
      clear hj hk
      have hyk := shr_bd k hy.1 hy.2
      have hand := and8 hyk.1 hyk.2
      generalize byt t j = y at *
      by_cases hbit : y / 2 ^ k % 2 = 0
      · rw [hbit] at hand
        have HV := Lib.hid (show clrB (tearF (fun j => byt f (a + j)) (byt t) i j) y k = Go.bits .andNot .u8 (tearF (fun j => byt f (a + j)) (byt t) i j) (2 ^ k % 256) by simp [clrB, hbit])
        clear hbit
        generalize tearF (fun j => byt f (a + j)) (byt t) i j = x at *
        go_wp2_with fail
        go_region
        go_wp2_with fail
        go_roundg (n - (i + 1))
        case measure => omega
        case rel =>
          refine ⟨i + 1, by omega, by omega, by go_num, (show Aside _ from fun m hm => ?_), (show Aside _ from fun m hm => ?_), bl_drew (bl_set HB (Nat.le_refl _)), (by show _ < _; simpa using hsz)⟩
          · show (wr.setCell _ _).cell? _ = _
            rw [HN.out m]
            by_cases e : m = j
            · subst e
              rw [if_pos rfl, HV.out]
              exact World.cell?_setCell_same _ _ _ hcell
            · rw [if_neg e, World.cell?_setCell_other (h := by intro e'; injection e' with _ e' _; omega)]
              exact C.out m hm
          · show (wr.setCell _ _).frozen? _ = _
            rw [World.frozen?_setCell]
            exact FR.out m hm
      · have hb1 : y / 2 ^ k % 2 = 1 := by omega
        rw [hb1] at hand
        have HV := Lib.hid (show clrB (tearF (fun j => byt f (a + j)) (byt t) i j) y k = tearF (fun j => byt f (a + j)) (byt t) i j by simp [clrB, hb1])
        clear hbit hb1
        go_wp2_with fail
        go_roundg (n - (i + 1))
        case measure => omega
        case rel =>
          refine ⟨i + 1, by omega, by omega, by go_num, (show Aside _ from fun m hm => ?_), FR.out, HB, BZ.out⟩
          rw [HN.out m]
          by_cases e : m = j
          · subst e
            rw [if_pos rfl, HV.out]
            exact C.out m hm
          · rw [if_neg e]
            exact C.out m hm
    · obtain rfl : i = n := by omega
      have hcell : ∀ j, j < (tearB f a t i).size → wr.cell? ⟨w.heap.size, j, none⟩ = some (.int .u8 (byt (tearB f a t i) j)) := fun j hj => by
        rw [tear_size] at hj
        rw [C.out j hj, byt_tear f a t i hj]
      have hcv := run_back wr w.heap.size cap (tearB f a t i) 4 (tear_size f a t i).symm hcell
      have hcv2 := run_back wr.drew w.heap.size cap (tearB f a t i) 4 (tear_size f a t i).symm hcell
      have hts := tear_size f a t i
      have hv := Lib.hid (show tornB f a t i = f.extract 0 a ++ tearB f a t i ++ f.extract (a + 4) f.size from rfl)
      have s1 : (f.extract 0 a).size = a := by rw [ByteArray.size_extract]; omega
      have s2 : (f.extract 0 a ++ tearB f a t i).size = a + 4 := by rw [ByteArray.size_append, s1, hts]
      have s3 : (f.extract (a + 4) f.size).size ≤ 768 := by rw [ByteArray.size_extract]; have := HF.out; omega
      clear hcell
      generalize tearB f a t i = T at *
      have hq1 : (9223372036854775807 < a + 4) = False := eq_false (by omega)
      have hq2 : (9223372036854775807 < a + 4 + (f.extract (a + 4) f.size).size) = False := eq_false (by omega)
      go_wp2_with fail
      go_region
      go_wp2_with fail
      go_ret2
      exact ⟨by rw [hv.out]; rfl, bl_drew HB⟩
end Go.Proofs.Ytimnhdmpfndeaaa.Fl
end
/- Layers 2, 3: the references' flash: Worn, Cut, Do, Blank. -/
section
namespace Go.Proofs.Ytimnhdmpfndeaaa.Fl
open Go.RowKit Go.Proofs.Ytimnhdmpfndeaaa.Kt Go.Proofs.Ytimnhdmpfndeaaa.Lw Go.Proofs.Ytimnhdmpfndeaaa.St Go.Proofs.Ytimnhdmpfndeaaa.Nm Go.Proofs.Ytimnhdmpfndeaaa.By Go.Proofs.Ytimnhdmpfndeaaa.En Go.Proofs.Ytimnhdmpfndeaaa.Jr Go.Proofs.Ytimnhdmpfndeaaa.Ops
set_option linter.unusedVariables false
set_option linter.unusedSimpArgs false
def wornB (f : ByteArray) (s n : Nat) : ByteArray := f.extract 0 (s * 96) ++ fullB n ++ f.extract (s * 96 + n) f.size
theorem worn_size {f : ByteArray} {s n : Nat} (h : s * 96 + n ≤ f.size) : (wornB f s n).size = f.size := by
  unfold wornB
  rw [ByteArray.size_append, ByteArray.size_append, full_size, ByteArray.size_extract, ByteArray.size_extract]
  omega
set_option maxRecDepth 100000 in
set_option maxHeartbeats 3200000 in
theorem rworn_c (f : ByteArray) (s n : Nat) (w : World) (hf : f.size = 768) (hs : s ≤ 7) (hn : n ≤ 96) :
    Calls Try.prog 47 #[.string f, .int .i64 s, .int .i64 n] w fun e w' => e = .returned (.tuple #[.string (wornB f s n), .int .i64 0]) ∧ Below w.heap.size w w' := by
  have HB := Below.refl w.heap.size w
  have mm := Lib.hid (fun W : World => rmay_c f W (by omega))
  rw [decide_eq_true hf] at mm
  have u1 := Lib.hid (fun W : World => upTo_c (s : Int) 0 7 W)
  rw [show rngB (s : Int) 0 7 = true by simp [rngB]; omega] at u1
  have u2 := Lib.hid (fun W : World => upTo_c (n : Int) 0 96 W)
  rw [show rngB (n : Int) 0 96 = true by simp [rngB]; omega] at u2
  have fl := Lib.hid (fun W : World => rfull_c n (by omega) W)
  have hv := Lib.hid (show wornB f s n = f.extract 0 (s * 96) ++ fullB n ++ f.extract (s * 96 + n) f.size from rfl)
  have hz := full_size n
  have s1 : (f.extract 0 (s * 96)).size = s * 96 := by rw [ByteArray.size_extract]; omega
  have s3 : (f.extract (s * 96 + n) f.size).size ≤ 768 := by rw [ByteArray.size_extract]; omega
  have s2 : (f.extract 0 (s * 96) ++ fullB n).size = s * 96 + n := by rw [ByteArray.size_append, s1, hz]
  have h1 : (s : Int) * 96 ≤ (f.size : Int) := by omega
  have h2 : s * 96 ≤ f.size := by omega
  have h3 : (s : Int) * 96 + (n : Int) ≤ (f.size : Int) := by omega
  have h4 : s * 96 + n ≤ f.size := by omega
  clear hf
  generalize fullB n = Z at *
  have hq1 : (9223372036854775807 < s * 96 + n) = False := eq_false (by omega)
  have hq2 : (9223372036854775807 < s * 96 + n + (f.extract (s * 96 + n) f.size).size) = False := eq_false (by omega)
  go_enter Try.func47, Try.ntmps47
  go_wp2_with (first | (go_at_call 31; with_reducible refine (mm.out _).mono ?_; rintro e w' ⟨rfl, rfl⟩) | (go_at_call 44; with_reducible refine (u1.out _).mono ?_; rintro e w' ⟨rfl, rfl⟩) | (go_at_call 44; with_reducible refine (u2.out _).mono ?_; rintro e w' ⟨rfl, rfl⟩) | fail)
  refine wld_lit (by kernel_rfl) (by kernel_rfl) ?_
  repeat (go_big_quiet_step (first | (go_at_call 49; with_reducible exact Wld.call (fl.out _)) | fail))
  refine wpQuiet_nil ?_; refine Wld.elim ?_; intro w' hb; have HB := bl_step (w := w) (by repeat (with_reducible first | exact HB | (refine bl_set ?_ (by omega)) | apply bl_alloc | apply bl_drew | apply bl_drewN | fail)) hb; have hzB := HB.size
  go_wp2_with fail
  go_ret2
  exact ⟨by rw [hv.out]; rfl, HB⟩
/-- so much of a step. -/
def cutB (f : ByteArray) (o : OpV) (n : Nat) : ByteArray := bif o.1 then wornB f (o.2.1 / 96).toNat n else tornB f o.2.1.toNat o.2.2 (min n 32)
def cutV (f : ByteArray) (o : OpV) (n : Int) : Array Value := if f.size = 768 ∧ opMay o = true ∧ 0 ≤ n ∧ n ≤ 96 then #[.string (cutB f o n.toNat), .int .i64 0] else #[.string ⟨#[]⟩, .int .i64 300]
theorem op_erase {o : OpV} (h : opMay o = true) (he : o.1 = true) : 0 ≤ o.2.1 ∧ o.2.1 ≤ 672 ∧ o.2.1 % 96 = 0 := by
  simp [opMay, he, rngB] at h
  omega
theorem op_word {o : OpV} (h : opMay o = true) (he : o.1 = false) : 0 ≤ o.2.1 ∧ o.2.1 ≤ 764 ∧ o.2.1 % 4 = 0 ∧ o.2.2.size = 4 := by
  simp [opMay, he, rngB, bgnB] at h
  omega
theorem ret2 {a b : Array Value} (h : a = b) : Ending.returned (.tuple a) = Ending.returned (.tuple b) := by rw [h]
set_option maxRecDepth 100000 in
set_option maxHeartbeats 6400000 in
theorem rcut_c (f : ByteArray) (o : OpV) (n : Int) (w : World) (h : f.size ≤ 9223372036854775807) (ho : OpOk o) :
    Calls Try.prog 23 #[.string f, .agg #[.bool o.1, .int .i64 o.2.1, .string o.2.2], .int .i64 n] w fun e w' => e = .returned (.tuple (cutV f o n)) ∧ Below w.heap.size w w' := by
  have HB := Below.refl w.heap.size w
  have K0 := Blk.new w #[.bool o.1, .int .i64 o.2.1, .string o.2.2] 50
  have mm := Lib.hid (fun W : World => rmay_c f W h)
  have oo := Lib.hid (fun W : World => rOpMay_c o W ho)
  have uu := Lib.hid (fun W : World => upTo_c n 0 96 W)
  by_cases hf : f.size = 768
  · rw [decide_eq_true hf] at mm
    cases hm : opMay o
    · rw [hm] at oo
      have hv : cutV f o n = #[.string ⟨#[]⟩, .int .i64 300] := by simp [cutV, hm]
      rw [hv]
      clear hf hm hv
      go_enter Try.func23, Try.ntmps23
      go_wp2_with (first | (go_at_call 31; with_reducible refine (mm.out _).mono ?_; rintro e w' ⟨rfl, rfl⟩) | (go_at_call 22; with_reducible refine (oo.out _).mono ?_; rintro e w' ⟨rfl, hb⟩; have HB := bl_step (w := w) (by repeat (with_reducible first | exact HB | (refine bl_set ?_ (by omega)) | apply bl_alloc | apply bl_drew | apply bl_drewN | fail)) hb; have hzB := HB.size; have K0 := Blk.on (by first | exact K0 | exact K0 #[] | exact K0 (.cells #[] 0) #[] | exact K0 #[] #[]) (by repeat (with_reducible first | exact K0 | exact K0 _ | exact K0 _ _ | apply Blk.alloc | apply Blk.drew | apply Blk.drewN | apply Blk.set3_0 | apply Blk.set3_1 | apply Blk.set3_2 | (apply Blk.off; (first | assumption | omega | (simp; omega))) | fail)) hb; (try clear cK0_0 cK0_1 cK0_2 fK0 lK0 nK0 mK0); obtain ⟨cK0_0, cK0_1, cK0_2, fK0, lK0, nK0, mK0⟩ := Blk.all3 K0) | fail)
      go_ret2
      exact ⟨rfl, HB⟩
    · rw [hm] at oo
      by_cases hn : 0 ≤ n ∧ n ≤ 96
      · rw [show rngB n 0 96 = true by simp [rngB]; omega] at uu
        obtain ⟨k, rfl⟩ := Int.eq_ofNat_of_zero_le hn.1
        have hv : cutV f o (k : Int) = #[.string (cutB f o k), .int .i64 0] := by simp [cutV, hm, hf, hn.2]
        rw [hv]
        cases he : o.1
        · obtain ⟨a0, a1, a2, a3⟩ := op_word hm he
          obtain ⟨a, ha⟩ := Int.eq_ofNat_of_zero_le a0
          have hmin : min (k : Int) 32 = ((min k 32 : Nat) : Int) := by omega
          have tt := Lib.hid (fun W : World => rtorn_c f a o.2.2 (min k 32) W hf (by omega) (by omega) a3 (by omega))
          have hw := Lib.hid (show cutB f o k = tornB f a o.2.2 (min k 32) by simp [cutB, he, ha])
          rw [he] at K0 oo
          rw [ha] at K0 oo
          rw [← hmin] at tt
          rw [ha]
          clear hf hm hv hn hmin he a0 a1 a2 a3 ho
          go_enter Try.func23, Try.ntmps23
          go_wp2_with (first | (go_at_call 31; with_reducible refine (mm.out _).mono ?_; rintro e w' ⟨rfl, rfl⟩) | (go_at_call 22; with_reducible refine (oo.out _).mono ?_; rintro e w' ⟨rfl, hb⟩; have HB := bl_step (w := w) (by repeat (with_reducible first | exact HB | (refine bl_set ?_ (by omega)) | apply bl_alloc | apply bl_drew | apply bl_drewN | fail)) hb; have hzB := HB.size; have K0 := Blk.on (by first | exact K0 | exact K0 #[] | exact K0 (.cells #[] 0) #[] | exact K0 #[] #[]) (by repeat (with_reducible first | exact K0 | exact K0 _ | exact K0 _ _ | apply Blk.alloc | apply Blk.drew | apply Blk.drewN | apply Blk.set3_0 | apply Blk.set3_1 | apply Blk.set3_2 | (apply Blk.off; (first | assumption | omega | (simp; omega))) | fail)) hb; (try clear cK0_0 cK0_1 cK0_2 fK0 lK0 nK0 mK0); obtain ⟨cK0_0, cK0_1, cK0_2, fK0, lK0, nK0, mK0⟩ := Blk.all3 K0) | (go_at_call 44; with_reducible refine (uu.out _).mono ?_; rintro e w' ⟨rfl, rfl⟩) | (go_at_call 48; with_reducible refine (tt.out _).mono ?_; rintro e w' ⟨rfl, hb⟩; have HB := bl_step (w := w) (by repeat (with_reducible first | exact HB | (refine bl_set ?_ (by omega)) | apply bl_alloc | apply bl_drew | apply bl_drewN | fail)) hb; have hzB := HB.size; have K0 := Blk.on (by first | exact K0 | exact K0 #[] | exact K0 (.cells #[] 0) #[] | exact K0 #[] #[]) (by repeat (with_reducible first | exact K0 | exact K0 _ | exact K0 _ _ | apply Blk.alloc | apply Blk.drew | apply Blk.drewN | apply Blk.set3_0 | apply Blk.set3_1 | apply Blk.set3_2 | (apply Blk.off; (first | assumption | omega | (simp; omega))) | fail)) hb; (try clear cK0_0 cK0_1 cK0_2 fK0 lK0 nK0 mK0); obtain ⟨cK0_0, cK0_1, cK0_2, fK0, lK0, nK0, mK0⟩ := Blk.all3 K0) | fail)
          go_ret2
          exact ⟨by rw [hw.out]; rfl, HB⟩
        · obtain ⟨a0, a1, a2⟩ := op_erase hm he
          obtain ⟨s, hs⟩ : ∃ s : Nat, o.2.1 / 96 = (s : Int) := ⟨(o.2.1 / 96).toNat, by omega⟩
          have tt := Lib.hid (fun W : World => rworn_c f s k W hf (by omega) (by omega))
          have hw := Lib.hid (show cutB f o k = wornB f s k by simp [cutB, he, hs])
          rw [he] at K0 oo
          clear hf hm hv hn he a2 ho
          generalize o.2.1 = x at *
          go_enter Try.func23, Try.ntmps23
          go_wp2_with (first | (go_at_call 31; with_reducible refine (mm.out _).mono ?_; rintro e w' ⟨rfl, rfl⟩) | (go_at_call 22; with_reducible refine (oo.out _).mono ?_; rintro e w' ⟨rfl, hb⟩; have HB := bl_step (w := w) (by repeat (with_reducible first | exact HB | (refine bl_set ?_ (by omega)) | apply bl_alloc | apply bl_drew | apply bl_drewN | fail)) hb; have hzB := HB.size; have K0 := Blk.on (by first | exact K0 | exact K0 #[] | exact K0 (.cells #[] 0) #[] | exact K0 #[] #[]) (by repeat (with_reducible first | exact K0 | exact K0 _ | exact K0 _ _ | apply Blk.alloc | apply Blk.drew | apply Blk.drewN | apply Blk.set3_0 | apply Blk.set3_1 | apply Blk.set3_2 | (apply Blk.off; (first | assumption | omega | (simp; omega))) | fail)) hb; (try clear cK0_0 cK0_1 cK0_2 fK0 lK0 nK0 mK0); obtain ⟨cK0_0, cK0_1, cK0_2, fK0, lK0, nK0, mK0⟩ := Blk.all3 K0) | (go_at_call 44; with_reducible refine (uu.out _).mono ?_; rintro e w' ⟨rfl, rfl⟩) | (go_at_call 47; with_reducible refine (tt.out _).mono ?_; rintro e w' ⟨rfl, hb⟩; have HB := bl_step (w := w) (by repeat (with_reducible first | exact HB | (refine bl_set ?_ (by omega)) | apply bl_alloc | apply bl_drew | apply bl_drewN | fail)) hb; have hzB := HB.size; have K0 := Blk.on (by first | exact K0 | exact K0 #[] | exact K0 (.cells #[] 0) #[] | exact K0 #[] #[]) (by repeat (with_reducible first | exact K0 | exact K0 _ | exact K0 _ _ | apply Blk.alloc | apply Blk.drew | apply Blk.drewN | apply Blk.set3_0 | apply Blk.set3_1 | apply Blk.set3_2 | (apply Blk.off; (first | assumption | omega | (simp; omega))) | fail)) hb; (try clear cK0_0 cK0_1 cK0_2 fK0 lK0 nK0 mK0); obtain ⟨cK0_0, cK0_1, cK0_2, fK0, lK0, nK0, mK0⟩ := Blk.all3 K0) | fail)
          go_ret2
          exact ⟨by rw [hw.out]; rfl, HB⟩
      · rw [show rngB n 0 96 = false by simp [rngB]; omega] at uu
        have hv : cutV f o n = #[.string ⟨#[]⟩, .int .i64 300] := if_neg (fun h => hn ⟨h.2.2.1, h.2.2.2⟩)
        rw [hv]
        clear hf hm hv hn
        go_enter Try.func23, Try.ntmps23
        go_wp2_with (first | (go_at_call 31; with_reducible refine (mm.out _).mono ?_; rintro e w' ⟨rfl, rfl⟩) | (go_at_call 22; with_reducible refine (oo.out _).mono ?_; rintro e w' ⟨rfl, hb⟩; have HB := bl_step (w := w) (by repeat (with_reducible first | exact HB | (refine bl_set ?_ (by omega)) | apply bl_alloc | apply bl_drew | apply bl_drewN | fail)) hb; have hzB := HB.size; have K0 := Blk.on (by first | exact K0 | exact K0 #[] | exact K0 (.cells #[] 0) #[] | exact K0 #[] #[]) (by repeat (with_reducible first | exact K0 | exact K0 _ | exact K0 _ _ | apply Blk.alloc | apply Blk.drew | apply Blk.drewN | apply Blk.set3_0 | apply Blk.set3_1 | apply Blk.set3_2 | (apply Blk.off; (first | assumption | omega | (simp; omega))) | fail)) hb; (try clear cK0_0 cK0_1 cK0_2 fK0 lK0 nK0 mK0); obtain ⟨cK0_0, cK0_1, cK0_2, fK0, lK0, nK0, mK0⟩ := Blk.all3 K0) | (go_at_call 44; with_reducible refine (uu.out _).mono ?_; rintro e w' ⟨rfl, rfl⟩) | fail)
        go_ret2
        exact ⟨rfl, HB⟩
  · rw [decide_eq_false hf] at mm
    have hv : cutV f o n = #[.string ⟨#[]⟩, .int .i64 300] := if_neg (fun h => hf h.1)
    rw [hv]
    clear hf hv
    go_enter Try.func23, Try.ntmps23
    go_wp2_with (first | (go_at_call 31; with_reducible refine (mm.out _).mono ?_; rintro e w' ⟨rfl, rfl⟩) | fail)
    go_ret2
    exact ⟨rfl, (by repeat (with_reducible first | exact Below.refl _ _ | assumption | (refine bl_set ?_ (by omega)) | apply bl_alloc | apply bl_drewN | apply bl_drew | (refine bl_step ?_ (by assumption)) | fail))⟩
def doB (f : ByteArray) (o : OpV) : ByteArray := cutB f o 96
def doV (f : ByteArray) (o : OpV) : Array Value := cutV f o 96
theorem do_yes {f : ByteArray} {o : OpV} (hf : f.size = 768) (hm : opMay o = true) : doV f o = #[.string (doB f o), .int .i64 0] := by simp [doV, cutV, hf, hm, doB]
theorem cut_size {f : ByteArray} {o : OpV} {n : Nat} (hf : f.size = 768) (hm : opMay o = true) (hn : n ≤ 96) : (cutB f o n).size = 768 := by
  cases he : o.1
  · obtain ⟨a0, a1, a2, a3⟩ := op_word hm he
    simp only [cutB, he, cond_false]
    rw [torn_size _ _ (by omega)]
    exact hf
  · obtain ⟨a0, a1, a2⟩ := op_erase hm he
    simp only [cutB, he, cond_true]
    rw [worn_size (by omega)]
    exact hf
theorem do_size {f : ByteArray} {o : OpV} (hf : f.size = 768) (hm : opMay o = true) : (doB f o).size = 768 := cut_size hf hm (Nat.le_refl _)
theorem rdo_c (f : ByteArray) (o : OpV) (w : World) (h : f.size ≤ 9223372036854775807) (ho : OpOk o) :
    Calls Try.prog 21 #[.string f, .agg #[.bool o.1, .int .i64 o.2.1, .string o.2.2]] w fun e w' => e = .returned (.tuple (doV f o)) ∧ Below w.heap.size w w' := by
  have HB := Below.refl w.heap.size w
  have K0 := Blk.new w #[.bool o.1, .int .i64 o.2.1, .string o.2.2] 50
  obtain ⟨x, hx⟩ : ∃ x, doV f o = x := ⟨_, rfl⟩
  have cc := Lib.hid (fun W : World => rcut_c f o 96 W h ho)
  obtain ⟨v0, v1, hv⟩ : ∃ v0 v1 : Value, cutV f o 96 = #[v0, v1] := by
    unfold cutV
    split
    · exact ⟨_, _, rfl⟩
    · exact ⟨_, _, rfl⟩
  have hd : doV f o = #[v0, v1] := hv
  rw [hd]
  rw [hv] at cc
  clear hx hv hd
  go_enter Try.func21, Try.ntmps21
  go_wp2_with (first | (go_at_call 23; with_reducible refine (cc.out _).mono ?_; rintro e w' ⟨rfl, hb⟩; have HB := bl_step (w := w) (by repeat (with_reducible first | exact HB | (refine bl_set ?_ (by omega)) | apply bl_alloc | apply bl_drew | apply bl_drewN | fail)) hb; have hzB := HB.size; have K0 := Blk.on (by first | exact K0 | exact K0 #[] | exact K0 (.cells #[] 0) #[] | exact K0 #[] #[]) (by repeat (with_reducible first | exact K0 | exact K0 _ | exact K0 _ _ | apply Blk.alloc | apply Blk.drew | apply Blk.drewN | apply Blk.set3_0 | apply Blk.set3_1 | apply Blk.set3_2 | (apply Blk.off; (first | assumption | omega | (simp; omega))) | fail)) hb; (try clear cK0_0 cK0_1 cK0_2 fK0 lK0 nK0 mK0); obtain ⟨cK0_0, cK0_1, cK0_2, fK0, lK0, nK0, mK0⟩ := Blk.all3 K0) | fail)
  go_ret2
  exact ⟨rfl, HB⟩
theorem blank_c (w : World) : Calls Try.prog 24 #[] w fun e w' => e = .returned (.string (fullB 768)) ∧ Below w.heap.size w w' := by
  have HB := Below.refl w.heap.size w
  have fl := Lib.hid (fun W : World => rfull_c 768 (by decide) W)
  rw [show ((768 : Nat) : Int) = 768 from rfl] at fl
  go_enter Try.func24, Try.ntmps24
  go_wp2_with (first | (go_at_call 49; with_reducible refine (fl.out _).mono ?_; rintro e w' ⟨rfl, hb⟩; have HB := bl_step (w := w) (by repeat (with_reducible first | exact HB | (refine bl_set ?_ (by omega)) | apply bl_alloc | apply bl_drew | apply bl_drewN | fail)) hb; have hzB := HB.size) | fail)
  go_ret
  exact ⟨rfl, HB⟩
end Go.Proofs.Ytimnhdmpfndeaaa.Fl
end
/- The flash in plain Lean: bytes behind steps; a text written where it is blank. -/
section
namespace Go.Proofs.Ytimnhdmpfndeaaa.Fl
open Go.RowKit Go.Proofs.Ytimnhdmpfndeaaa.Kt Go.Proofs.Ytimnhdmpfndeaaa.Lw Go.Proofs.Ytimnhdmpfndeaaa.St Go.Proofs.Ytimnhdmpfndeaaa.Nm Go.Proofs.Ytimnhdmpfndeaaa.By Go.Proofs.Ytimnhdmpfndeaaa.En Go.Proofs.Ytimnhdmpfndeaaa.Jr Go.Proofs.Ytimnhdmpfndeaaa.Ops Go.Proofs.Ytimnhdmpfndeaaa.Pl
set_option linter.unusedVariables false
set_option linter.unusedSimpArgs false
theorem byt_ext {a b : ByteArray} (hs : a.size = b.size) (h : ∀ j, j < a.size → byt a j = byt b j) : a = b := by
  have la : a.data.toList.length = a.size := by rw [Array.length_toList]; rfl
  have lb : b.data.toList.length = b.size := by rw [Array.length_toList]; rfl
  apply ext_data
  apply List.ext_getElem (by omega)
  intro j h1 h2
  have hj := h j (by omega)
  unfold byt at hj
  simp only [List.getD_eq_getElem?_getD, List.getElem?_eq_getElem h1, List.getElem?_eq_getElem h2, Option.getD_some] at hj
  exact UInt8.toNat_inj.1 (by omega)
theorem byt_app (a b : ByteArray) (j : Nat) : byt (a ++ b) j = if j < a.size then byt a j else byt b (j - a.size) := by
  by_cases h : j < a.size
  · rw [if_pos h, byt_left a b h]
  · rw [if_neg h]
    have := byt_right a b (j - a.size)
    rwa [show a.size + (j - a.size) = j by omega] at this
theorem byt_full {k j : Nat} (h : j < k) : byt (fullB k) j = 255 := by
  unfold byt fullB
  simp [List.getD_eq_getElem?_getD, h]
theorem byt_over {s : ByteArray} {j : Nat} (h : s.size ≤ j) : byt s j = 0 := by
  have l : s.data.toList.length = s.size := by rw [Array.length_toList]; rfl
  unfold byt
  rw [List.getD_eq_getElem?_getD, List.getElem?_eq_none (by omega)]
  rfl
/-- behind a word's tearing. -/
theorem byt_torn {f : ByteArray} {a : Nat} (t : ByteArray) (n : Nat) (h : a + 4 ≤ f.size) {j : Nat} (hj : j < f.size) :
    byt (tornB f a t n) j = if a ≤ j ∧ j < a + 4 then tearF (fun i => byt f (a + i)) (byt t) n (j - a) else byt f j := by
  have s1 : (f.extract 0 a).size = a := by rw [ByteArray.size_extract]; omega
  have s2 := tear_size f a t n
  unfold tornB
  rw [byt_app, ByteArray.size_append, s1, s2]
  by_cases h1 : j < a + 4
  · rw [if_pos h1, byt_app, s1]
    by_cases h2 : j < a
    · rw [if_pos h2, if_neg (by omega), byt_ex f 0 a j (by omega) (by omega)]
      congr 1
      omega
    · rw [if_neg h2, if_pos (by omega), byt_tear f a t n (by omega)]
  · rw [if_neg h1, if_neg (by omega), byt_ex f (a + 4) f.size (j - (a + 4)) (by omega) (Nat.le_refl _)]
    congr 1
    omega
theorem byt_worn {f : ByteArray} {s n : Nat} (h : s * 96 + n ≤ f.size) {j : Nat} (hj : j < f.size) : byt (wornB f s n) j = if s * 96 ≤ j ∧ j < s * 96 + n then 255 else byt f j := by
  have s1 : (f.extract 0 (s * 96)).size = s * 96 := by rw [ByteArray.size_extract]; omega
  have s2 := full_size n
  unfold wornB
  rw [byt_app, ByteArray.size_append, s1, s2]
  by_cases h1 : j < s * 96 + n
  · rw [if_pos h1, byt_app, s1]
    by_cases h2 : j < s * 96
    · rw [if_pos h2, if_neg (by omega), byt_ex f 0 (s * 96) j (by omega) (by omega)]
      congr 1
      omega
    · rw [if_neg h2, if_pos (by omega), byt_full (by omega)]
  · rw [if_neg h1, if_neg (by omega), byt_ex f (s * 96 + n) f.size (j - (s * 96 + n)) (by omega) (Nat.le_refl _)]
    congr 1
    omega
/-- all eight bits. -/
def clr8 (x y : Int) : Int := clrB (clrB (clrB (clrB (clrB (clrB (clrB (clrB x y 0) y 1) y 2) y 3) y 4) y 5) y 6) y 7
theorem tear_all (b w : Nat → Int) {j : Nat} (h : j < 4) : tearF b w 32 j = clr8 (b j) (w j) := by
  rcases j with _ | _ | _ | _ | j
  · kernel_rfl
  · kernel_rfl
  · kernel_rfl
  · kernel_rfl
  · omega
theorem clr_blank_nat : ∀ y : Fin 256, clr8 255 (y.val : Int) = (y.val : Int) := by decide +kernel
theorem clr_blank {y : Int} (h0 : 0 ≤ y) (h1 : y < 256) : clr8 255 y = y := by
  obtain ⟨n, rfl⟩ := Int.eq_ofNat_of_zero_le h0
  exact clr_blank_nat ⟨n, by omega⟩
theorem byt_prog {f : ByteArray} {a : Nat} {t : ByteArray} (h : a + 4 ≤ f.size) (hb : ∀ j, a ≤ j → j < a + 4 → byt f j = 255) {j : Nat} (hj : j < f.size) :
    byt (tornB f a t 32) j = if a ≤ j ∧ j < a + 4 then byt t (j - a) else byt f j := by
  rw [byt_torn t 32 h hj]
  by_cases h1 : a ≤ j ∧ j < a + 4
  · rw [if_pos h1, if_pos h1, tear_all _ _ (by omega)]
    have hf : byt f (a + (j - a)) = 255 := hb _ (by omega) (by omega)
    have ht := byt_bd t (j - a)
    rw [hf]
    exact clr_blank ht.1 ht.2
  · rw [if_neg h1, if_neg h1]
theorem do_word {f : ByteArray} {a : Nat} {t : ByteArray} : doB f (false, (a : Int), t) = tornB f a t 32 := by simp [doB, cutB]
theorem do_erase {f : ByteArray} {s : Nat} {t : ByteArray} : doB f (true, (s : Int) * 96, t) = wornB f s 96 := by
  have : ((s : Int) * 96 / 96).toNat = s := by omega
  simp [doB, cutB, this]
/-- steps done, one behind the other. -/
def allB (f : ByteArray) (os : List OpV) : ByteArray := os.foldl doB f
theorem all_snoc (f : ByteArray) (os : List OpV) (o : OpV) : allB f (os ++ [o]) = doB (allB f os) o := by simp only [allB, List.foldl_append, List.foldl_cons, List.foldl_nil]
theorem all_app (f : ByteArray) (os ps : List OpV) : allB f (os ++ ps) = allB (allB f os) ps := by simp only [allB, List.foldl_append]
/-- a text written where it is blank. -/
theorem write_size {f : ByteArray} {a : Nat} {t : ByteArray} : ∀ k, a + 4 * k ≤ f.size → (allB f (wordsN (a : Int) t k)).size = f.size
  | 0, _ => rfl
  | k + 1, h => by
    have ih := write_size (f := f) (a := a) (t := t) k (by omega)
    rw [wordsN_succ, all_snoc]
    have e : wordV (a : Int) t k = (false, ((a + 4 * k : Nat) : Int), wordB t k) := by simp [wordV]
    rw [e, do_word, torn_size _ _ (by omega), ih]
theorem byt_write {f : ByteArray} {a : Nat} {t : ByteArray} : ∀ k, k ≤ (t.size + 3) / 4 → a + 4 * k ≤ f.size → (∀ j, a ≤ j → j < a + 4 * k → byt f j = 255) → ∀ j, j < f.size →
    byt (allB f (wordsN (a : Int) t k)) j = if a ≤ j ∧ j < a + 4 * k then byt (padB t) (j - a) else byt f j
  | 0, _, _, _, j, _ => by
    rw [if_neg (by omega)]
    rfl
  | k + 1, hk, h, hb, j, hj => by
    have hz := write_size (f := f) (a := a) (t := t) k (by omega)
    have ih := byt_write (f := f) (a := a) (t := t) k (by omega) (by omega) (fun j h1 h2 => hb j h1 (by omega))
    have e : wordV (a : Int) t k = (false, ((a + 4 * k : Nat) : Int), wordB t k) := by simp [wordV]
    rw [wordsN_succ, all_snoc, e, do_word, byt_prog (by omega) (fun i h1 h2 => ?_) (by omega)]
    · by_cases h1 : a + 4 * k ≤ j ∧ j < a + 4 * k + 4
      · rw [if_pos h1, if_pos (by omega), ← pad_word t k (by omega), byt_ex _ _ _ _ (by omega) (by rw [pad_size]; omega)]
        congr 1
        omega
      · rw [if_neg h1, ih j hj]
        by_cases h2 : a ≤ j ∧ j < a + 4 * k
        · rw [if_pos h2, if_pos (by omega)]
        · rw [if_neg h2, if_neg (by omega)]
    · rw [ih i (by omega), if_neg (by omega)]
      exact hb i (by omega) (by omega)
end Go.Proofs.Ytimnhdmpfndeaaa.Fl
end
