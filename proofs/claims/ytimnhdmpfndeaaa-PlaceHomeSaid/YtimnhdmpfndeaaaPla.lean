/- Layer 8: the number of the next record: what the program's and the references' functions answer. -/
import Derived.Test.YtimnhdmpfndeaaaChf
namespace Go.Proofs.Ytimnhdmpfndeaaa.Pl
open Go.RowKit Go.Proofs.Ytimnhdmpfndeaaa.Kt Go.Proofs.Ytimnhdmpfndeaaa.Lw Go.Proofs.Ytimnhdmpfndeaaa.St Go.Proofs.Ytimnhdmpfndeaaa.Nm Go.Proofs.Ytimnhdmpfndeaaa.By Go.Proofs.Ytimnhdmpfndeaaa.En Go.Proofs.Ytimnhdmpfndeaaa.Jr Go.Proofs.Ytimnhdmpfndeaaa.Im Go.Proofs.Ytimnhdmpfndeaaa.Sl Go.Proofs.Ytimnhdmpfndeaaa.Ch
set_option linter.unusedVariables false
set_option linter.unusedSimpArgs false
attribute [local irreducible] gotB goodB Cr.crcB nQ nS nZ nM placeB
/-- the greatest number of some records. -/
def maxL (l : List PlV) : Int := l.foldl (fun a p => max a p.q) 0
theorem max_snoc (l : List PlV) (p : PlV) : maxL (l ++ [p]) = max (maxL l) p.q := by simp only [maxL, List.foldl_append, List.foldl_cons, List.foldl_nil]
theorem max_next {l : List PlV} {k : Nat} {x : PlV} (h : l[k]? = some x) : maxL (l.take (k + 1)) = max (maxL (l.take k)) x.q := by
  rw [List.take_add_one, h]
  exact max_snoc _ _
theorem max_bd {f : ByteArray} : ∀ k, 0 ≤ maxL ((scanL f).take k) ∧ maxL ((scanL f).take k) ≤ 1048576
  | 0 => by simp [maxL]
  | k + 1 => by
    have ih := max_bd (f := f) k
    cases hx : (scanL f)[k]? with
    | none =>
      rw [List.take_add_one, hx]
      simpa using ih
    | some x =>
      have hq := may_parts (scan_ok (List.mem_of_getElem? hx)).may
      rw [max_next hx]
      omega
def nextV (f : ByteArray) : Array Value := if f.size = 768 then (if maxL (scanL f) = 1048576 then #[.int .i64 0, .int .i64 801] else #[.int .i64 (maxL (scanL f) + 1), .int .i64 0]) else #[.int .i64 0, .int .i64 800]
theorem next_full {f : ByteArray} (hf : f.size = 768) (h : maxL (scanL f) = 1048576) : nextV f = #[.int .i64 0, .int .i64 801] := by simp [nextV, hf, h]
theorem next_one {f : ByteArray} (hf : f.size = 768) (h : ¬ maxL (scanL f) = 1048576) : nextV f = #[.int .i64 (maxL (scanL f) + 1), .int .i64 0] := by simp [nextV, hf, h]
theorem next_form {f : ByteArray} (hf : ¬ f.size = 768) : nextV f = #[.int .i64 0, .int .i64 800] := by simp [nextV, hf]
theorem ret2 {a b : Array Value} (h : a = b) : Ending.returned (.tuple a) = Ending.returned (.tuple b) := by rw [h]
set_option maxRecDepth 100000 in
set_option maxHeartbeats 6400000 in
theorem next_c (f : ByteArray) (w : World) (h : f.size ≤ 9223372036854775807) : Calls Try.prog 10 #[.string f] w fun e w' => e = .returned (.tuple (nextV f)) ∧ Below w.heap.size w w' := by
  have HB := Below.refl w.heap.size w
  by_cases hf : f.size = 768
  · have sc := Lib.hid (fun W : World => scan_yes f W hf)
    have HF := Lib.hid hf
    clear hf
    go_enter Try.func10, Try.ntmps10
    go_wp2_with (first | (go_at_call 32; (with_reducible refine (sc.out _).mono ?_); rintro e w' ⟨A, c, rfl, hown, hb⟩; have HB := bl_step HB hb) | fail)
    have hln : (scanL f).length ≤ 8 := scanN_le f 8
    have LL := Lib.hid (lies_own encP_len hown rfl)
    clear hown
    obtain ⟨n, hn⟩ : ∃ n, (scanL f).length = n := ⟨_, rfl⟩
    rw [hn] at hln ⊢
    have HN := Lib.hid hn
    clear hn hb sc
    go_loopg [6, 8, 18] n (fun gg s6 _ s18 wr => ∃ (k : Nat) (m : Int), k ≤ n ∧ n - k ≤ gg ∧ s18 = .int .i64 k ∧ s6 = .int .i64 m ∧ 0 ≤ m ∧ m ≤ 1048576 ∧ Aside (m = maxL ((scanL f).take k)) ∧ Aside (Below w.heap.size w wr) ∧ Aside (Lies encP 5 wr A (scanL f)))
    case atStart => exact ⟨0, 0, by omega, by omega, rfl, rfl, by omega, by omega, (by show (0 : Int) = _; simp [maxL]), HB, LL.out⟩
    case round =>
      clear HB LL
      obtain ⟨k, m, hk, hg, rfl, rfl, hm0, hm1, BM, BW, BL⟩ := hrel
      have HB := BW.out
      by_cases hlt : k < n
      · obtain ⟨ab, off, x, rfl, hbs, hx, c0, c1, c2, c3, c4⟩ := lies_at BL.out (j := k) (by have := HN.out; omega)
        have hq := may_parts (scan_ok (List.mem_of_getElem? hx)).may
        obtain ⟨⟨hq1, hq2⟩, _⟩ := hq
        have MX := Lib.hid (max_next hx)
        have hki : (k : Int) < (n : Int) := by omega
        clear hx
        go_wp2_with fail
        go_roundg (n - (k + 1))
        case measure => omega
        case rel => exact ⟨k + 1, max m x.q, by omega, by omega, by go_num, rfl, by omega, by omega, (by show max m x.q = _; rw [MX.out, ← BM.out]), bl_alloc HB _, BL.out.alloc _⟩
      · obtain rfl : k = n := by omega
        have hall : (scanL f).take k = scanL f := List.take_of_length_le (by have := HN.out; omega)
        have hmm : m = maxL (scanL f) := by rw [← hall]; exact BM.out
        clear hall BM
        by_cases hfu : m = 1048576
        · have hv := Lib.hid (next_full HF.out (by rw [← hmm]; exact hfu))
          have hge : (1048576 : Int) ≤ m := by omega
          clear hmm hfu
          go_wp2_with fail
          go_ret2
          exact ⟨ret2 hv.out.symm, HB⟩
        · have hv := Lib.hid (next_one HF.out (by rw [← hmm]; exact hfu))
          rw [← hmm] at hv
          have hlt2 : m < 1048576 := by omega
          clear hmm hfu
          go_wp2_with fail
          go_ret2
          exact ⟨ret2 hv.out.symm, HB⟩
  · have sc := Lib.hid (fun W : World => scan_no f W h hf)
    have hv := Lib.hid (next_form hf)
    clear hf
    go_enter Try.func10, Try.ntmps10
    go_wp2_with (first | (go_at_call 32; with_reducible refine (sc.out _).mono ?_; rintro e w' ⟨rfl, rfl⟩) | fail)
    go_ret2
    exact ⟨ret2 hv.out.symm, HB⟩
set_option maxRecDepth 100000 in
set_option maxHeartbeats 6400000 in
theorem rnext_c (f : ByteArray) (w : World) (h : f.size ≤ 9223372036854775807) : Calls Try.prog 11 #[.string f] w fun e w' => e = .returned (.tuple (nextV f)) ∧ Below w.heap.size w w' := by
  have HB := Below.refl w.heap.size w
  by_cases hf : f.size = 768
  · have sc := Lib.hid (fun W : World => rscan_yes f W hf)
    have HF := Lib.hid hf
    clear hf
    go_enter Try.func11, Try.ntmps11
    go_wp2_with (first | (go_at_call 33; (with_reducible refine (sc.out _).mono ?_); rintro e w' ⟨A, c, rfl, hown, hb⟩; have HB := bl_step HB hb) | fail)
    have hln : (scanL f).length ≤ 8 := scanN_le f 8
    have LL := Lib.hid (lies_own encP_len hown rfl)
    clear hown
    obtain ⟨n, hn⟩ : ∃ n, (scanL f).length = n := ⟨_, rfl⟩
    rw [hn] at hln ⊢
    have HN := Lib.hid hn
    clear hn hb sc
    go_loopg [6, 7] n (fun gg s6 s7 wr => ∃ (k : Nat) (m : Int), k ≤ n ∧ n - k ≤ gg ∧ s7 = .int .i64 k ∧ s6 = .int .i64 m ∧ 0 ≤ m ∧ m ≤ 1048576 ∧ Aside (m = maxL ((scanL f).take k)) ∧ Aside (Below w.heap.size w wr) ∧ Aside (Lies encP 5 wr A (scanL f)))
    case atStart => exact ⟨0, 0, by omega, by omega, rfl, rfl, by omega, by omega, (by show (0 : Int) = _; simp [maxL]), HB, LL.out⟩
    case round =>
      clear HB LL
      obtain ⟨k, m, hk, hg, rfl, rfl, hm0, hm1, BM, BW, BL⟩ := hrel
      have HB := BW.out
      by_cases hlt : k < n
      · obtain ⟨ab, off, x, rfl, hbs, hx, c0, c1, c2, c3, c4⟩ := lies_at BL.out (j := k) (by have := HN.out; omega)
        have hq := may_parts (scan_ok (List.mem_of_getElem? hx)).may
        obtain ⟨⟨hq1, hq2⟩, _⟩ := hq
        have MX := Lib.hid (max_next hx)
        have hki : (k : Int) < (n : Int) := by omega
        clear hx
        go_wp2_with fail
        go_roundg (n - (k + 1))
        case measure => omega
        case rel => exact ⟨k + 1, max m x.q, by omega, by omega, by go_num, rfl, by omega, by omega, (by show max m x.q = _; rw [MX.out, ← BM.out]), HB, BL.out⟩
      · obtain rfl : k = n := by omega
        have hall : (scanL f).take k = scanL f := List.take_of_length_le (by have := HN.out; omega)
        have hmm : m = maxL (scanL f) := by rw [← hall]; exact BM.out
        clear hall BM
        by_cases hfu : m = 1048576
        · have hv := Lib.hid (next_full HF.out (by rw [← hmm]; exact hfu))
          have hge : (m == 1048576) = true := by simp [hfu]
          clear hmm hfu
          go_wp2_with fail
          go_ret2
          exact ⟨ret2 hv.out.symm, HB⟩
        · have hv := Lib.hid (next_one HF.out (by rw [← hmm]; exact hfu))
          rw [← hmm] at hv
          have hge : (m == 1048576) = false := by simp [hfu]
          clear hmm hfu
          go_wp2_with fail
          go_ret2
          exact ⟨ret2 hv.out.symm, HB⟩
  · have sc := Lib.hid (fun W : World => rscan_no f W h hf)
    have hv := Lib.hid (next_form hf)
    clear hf
    go_enter Try.func11, Try.ntmps11
    go_wp2_with (first | (go_at_call 33; with_reducible refine (sc.out _).mono ?_; rintro e w' ⟨rfl, rfl⟩) | fail)
    go_ret2
    exact ⟨ret2 hv.out.symm, HB⟩
end Go.Proofs.Ytimnhdmpfndeaaa.Pl
