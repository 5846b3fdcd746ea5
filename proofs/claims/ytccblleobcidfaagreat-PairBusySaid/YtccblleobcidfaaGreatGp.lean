/- Texts laid as one: Pla Plb Plc Pld Ple Plf Plg Fla Flb Flc. -/
import Derived.Test.YtccblleobcidfaaGreatGc
import Derived.Test.YtccblleobcidfaaGreatGb
import Derived.Test.YtccblleobcidfaaGreatGk
import Derived.RegionTactic
import Derived.BigRegion
/- Layer 8: the number of the next record: what the program's and the references' functions answer. -/
section
namespace Go.Proofs.YtccblleobcidfaaGreat.Pl
open Go.RowKit Go.Proofs.YtccblleobcidfaaGreat.Kt Go.Proofs.YtccblleobcidfaaGreat.Lw Go.Proofs.YtccblleobcidfaaGreat.St Go.Proofs.YtccblleobcidfaaGreat.Nm Go.Proofs.YtccblleobcidfaaGreat.By Go.Proofs.YtccblleobcidfaaGreat.En Go.Proofs.YtccblleobcidfaaGreat.Jr Go.Proofs.YtccblleobcidfaaGreat.Im Go.Proofs.YtccblleobcidfaaGreat.Sl Go.Proofs.YtccblleobcidfaaGreat.Ch
set_option linter.unusedVariables false
set_option linter.unusedSimpArgs false
attribute [local irreducible] gotB goodB Cr.crcB nQ nS nZ nM placeB
/-- the greatest number of some records. -/
def maxL (l : List PlV) : Int := l.foldl (fun a p => max a p.q) 0
theorem max_snoc (l : List PlV) (p : PlV) : maxL (l ++ [p]) = max (maxL l) p.q := by simp only [maxL, List.foldl_append, List.foldl_cons, List.foldl_nil]
theorem max_next {l : List PlV} {k : Nat} {x : PlV} (h : l[k]? = some x) : maxL (l.take (k + 1)) = max (maxL (l.take k)) x.q := by
  rw [List.take_add_one, h]
  exact max_snoc _ _
theorem max_bd {f : ByteArray} : ∀ k, 0 ≤ maxL ((scanL f).take k) ∧ maxL ((scanL f).take k) ≤ 1048576
  | 0 => by simp [maxL]
  | k + 1 => by
    have ih := max_bd (f := f) k
    cases hx : (scanL f)[k]? with
    | none =>
      rw [List.take_add_one, hx]
      simpa using ih
    | some x =>
      have hq := may_parts (scan_ok (List.mem_of_getElem? hx)).may
      rw [max_next hx]
      omega
def nextV (f : ByteArray) : Array Value := if f.size = 768 then (if maxL (scanL f) = 1048576 then #[.int .i64 0, .int .i64 801] else #[.int .i64 (maxL (scanL f) + 1), .int .i64 0]) else #[.int .i64 0, .int .i64 800]
theorem next_full {f : ByteArray} (hf : f.size = 768) (h : maxL (scanL f) = 1048576) : nextV f = #[.int .i64 0, .int .i64 801] := by simp [nextV, hf, h]
theorem next_one {f : ByteArray} (hf : f.size = 768) (h : ¬ maxL (scanL f) = 1048576) : nextV f = #[.int .i64 (maxL (scanL f) + 1), .int .i64 0] := by simp [nextV, hf, h]
theorem next_form {f : ByteArray} (hf : ¬ f.size = 768) : nextV f = #[.int .i64 0, .int .i64 800] := by simp [nextV, hf]
theorem ret2 {a b : Array Value} (h : a = b) : Ending.returned (.tuple a) = Ending.returned (.tuple b) := by rw [h]
set_option maxRecDepth 100000 in
set_option maxHeartbeats 6400000 in
theorem next_c (f : ByteArray) (w : World) (h : f.size ≤ 9223372036854775807) : Calls Tryz.prog 72 #[.string f] w fun e w' => e = .returned (.tuple (nextV f)) ∧ Below w.heap.size w w' := by
  have HB := Below.refl w.heap.size w
  by_cases hf : f.size = 768
  · have sc := Lib.hid (fun W : World => scan_yes f W hf)
    have HF := Lib.hid hf
    clear hf
    go_enter Tryz.func72, Tryz.ntmps72
    go_wp2_with (first | (go_at_call 63; (with_reducible refine (sc.out _).mono ?_); rintro e w' ⟨A, c, rfl, hown, hb⟩; have HB := bl_step HB hb) | fail)
    have hln : (scanL f).length ≤ 8 := scanN_le f 8
    have LL := Lib.hid (lies_own encP_len hown rfl)
    clear hown
    obtain ⟨n, hn⟩ : ∃ n, (scanL f).length = n := ⟨_, rfl⟩
    rw [hn] at hln ⊢
    have HN := Lib.hid hn
    clear hn hb sc
    go_loopg [6, 8, 18] n (fun gg s6 _ s18 wr => ∃ (k : Nat) (m : Int), k ≤ n ∧ n - k ≤ gg ∧ s18 = .int .i64 k ∧ s6 = .int .i64 m ∧ 0 ≤ m ∧ m ≤ 1048576 ∧ Aside (m = maxL ((scanL f).take k)) ∧ Aside (Below w.heap.size w wr) ∧ Aside (Lies encP 5 wr A (scanL f)))
    case atStart => exact ⟨0, 0, by omega, by omega, rfl, rfl, by omega, by omega, (by show (0 : Int) = _; simp [maxL]), HB, LL.out⟩
    case round =>
      clear HB LL
      obtain ⟨k, m, hk, hg, rfl, rfl, hm0, hm1, BM, BW, BL⟩ := hrel
      have HB := BW.out
      by_cases hlt : k < n
      · obtain ⟨ab, off, x, rfl, hbs, hx, c0, c1, c2, c3, c4⟩ := lies_at BL.out (j := k) (by have := HN.out; omega)
        have hq := may_parts (scan_ok (List.mem_of_getElem? hx)).may
        obtain ⟨⟨hq1, hq2⟩, _⟩ := hq
        have MX := Lib.hid (max_next hx)
        have hki : (k : Int) < (n : Int) := by omega
        clear hx
        go_wp2_with fail
        go_roundg (n - (k + 1))
        case measure => omega
        case rel => exact ⟨k + 1, max m x.q, by omega, by omega, by go_num, rfl, by omega, by omega, (by show max m x.q = _; rw [MX.out, ← BM.out]), bl_alloc HB _, BL.out.alloc _⟩
      · obtain rfl : k = n := by omega
        have hall : (scanL f).take k = scanL f := List.take_of_length_le (by have := HN.out; omega)
        have hmm : m = maxL (scanL f) := by rw [← hall]; exact BM.out
        clear hall BM
        by_cases hfu : m = 1048576
        · have hv := Lib.hid (next_full HF.out (by rw [← hmm]; exact hfu))
          have hge : (1048576 : Int) ≤ m := by omega
          clear hmm hfu
          go_wp2_with fail
          go_ret2
          exact ⟨ret2 hv.out.symm, HB⟩
        · have hv := Lib.hid (next_one HF.out (by rw [← hmm]; exact hfu))
          rw [← hmm] at hv
          have hlt2 : m < 1048576 := by omega
          clear hmm hfu
          go_wp2_with fail
          go_ret2
          exact ⟨ret2 hv.out.symm, HB⟩
  · have sc := Lib.hid (fun W : World => scan_no f W h hf)
    have hv := Lib.hid (next_form hf)
    clear hf
    go_enter Tryz.func72, Tryz.ntmps72
    go_wp2_with (first | (go_at_call 63; with_reducible refine (sc.out _).mono ?_; rintro e w' ⟨rfl, rfl⟩) | fail)
    go_ret2
    exact ⟨ret2 hv.out.symm, HB⟩
set_option maxRecDepth 100000 in
set_option maxHeartbeats 6400000 in
theorem rnext_c (f : ByteArray) (w : World) (h : f.size ≤ 9223372036854775807) : Calls Tryz.prog 272 #[.string f] w fun e w' => e = .returned (.tuple (nextV f)) ∧ Below w.heap.size w w' := by
  have HB := Below.refl w.heap.size w
  by_cases hf : f.size = 768
  · have sc := Lib.hid (fun W : World => rscan_yes f W hf)
    have HF := Lib.hid hf
    clear hf
    go_enter Tryz.func272, Tryz.ntmps272
    go_wp2_with (first | (go_at_call 112; (with_reducible refine (sc.out _).mono ?_); rintro e w' ⟨A, c, rfl, hown, hb⟩; have HB := bl_step HB hb) | fail)
    have hln : (scanL f).length ≤ 8 := scanN_le f 8
    have LL := Lib.hid (lies_own encP_len hown rfl)
    clear hown
    obtain ⟨n, hn⟩ : ∃ n, (scanL f).length = n := ⟨_, rfl⟩
    rw [hn] at hln ⊢
    have HN := Lib.hid hn
    clear hn hb sc
    go_loopg [6, 7] n (fun gg s6 s7 wr => ∃ (k : Nat) (m : Int), k ≤ n ∧ n - k ≤ gg ∧ s7 = .int .i64 k ∧ s6 = .int .i64 m ∧ 0 ≤ m ∧ m ≤ 1048576 ∧ Aside (m = maxL ((scanL f).take k)) ∧ Aside (Below w.heap.size w wr) ∧ Aside (Lies encP 5 wr A (scanL f)))
    case atStart => exact ⟨0, 0, by omega, by omega, rfl, rfl, by omega, by omega, (by show (0 : Int) = _; simp [maxL]), HB, LL.out⟩
    case round =>
      clear HB LL
      obtain ⟨k, m, hk, hg, rfl, rfl, hm0, hm1, BM, BW, BL⟩ := hrel
      have HB := BW.out
      by_cases hlt : k < n
      · obtain ⟨ab, off, x, rfl, hbs, hx, c0, c1, c2, c3, c4⟩ := lies_at BL.out (j := k) (by have := HN.out; omega)
        have hq := may_parts (scan_ok (List.mem_of_getElem? hx)).may
        obtain ⟨⟨hq1, hq2⟩, _⟩ := hq
        have MX := Lib.hid (max_next hx)
        have hki : (k : Int) < (n : Int) := by omega
        clear hx
        go_wp2_with fail
        go_roundg (n - (k + 1))
        case measure => omega
        case rel => exact ⟨k + 1, max m x.q, by omega, by omega, by go_num, rfl, by omega, by omega, (by show max m x.q = _; rw [MX.out, ← BM.out]), HB, BL.out⟩
      · obtain rfl : k = n := by omega
        have hall : (scanL f).take k = scanL f := List.take_of_length_le (by have := HN.out; omega)
        have hmm : m = maxL (scanL f) := by rw [← hall]; exact BM.out
        clear hall BM
        by_cases hfu : m = 1048576
        · have hv := Lib.hid (next_full HF.out (by rw [← hmm]; exact hfu))
          have hge : (m == 1048576) = true := by simp [hfu]
          clear hmm hfu
          go_wp2_with fail
          go_ret2
          exact ⟨ret2 hv.out.symm, HB⟩
        · have hv := Lib.hid (next_one HF.out (by rw [← hmm]; exact hfu))
          rw [← hmm] at hv
          have hge : (m == 1048576) = false := by simp [hfu]
          clear hmm hfu
          go_wp2_with fail
          go_ret2
          exact ⟨ret2 hv.out.symm, HB⟩
  · have sc := Lib.hid (fun W : World => rscan_no f W h hf)
    have hv := Lib.hid (next_form hf)
    clear hf
    go_enter Tryz.func272, Tryz.ntmps272
    go_wp2_with (first | (go_at_call 112; with_reducible refine (sc.out _).mono ?_; rintro e w' ⟨rfl, rfl⟩) | fail)
    go_ret2
    exact ⟨ret2 hv.out.symm, HB⟩
end Go.Proofs.YtccblleobcidfaaGreat.Pl
end
/- Layer 3: the steps that program a text: what the program's and the references' Words answer. -/
section
namespace Go.Proofs.YtccblleobcidfaaGreat.Pl
open Go.RowKit Go.Proofs.YtccblleobcidfaaGreat.Kt Go.Proofs.YtccblleobcidfaaGreat.Lw Go.Proofs.YtccblleobcidfaaGreat.St Go.Proofs.YtccblleobcidfaaGreat.Nm Go.Proofs.YtccblleobcidfaaGreat.By Go.Proofs.YtccblleobcidfaaGreat.En Go.Proofs.YtccblleobcidfaaGreat.Jr Go.Proofs.YtccblleobcidfaaGreat.Sl Go.Proofs.YtccblleobcidfaaGreat.Gr Go.Proofs.YtccblleobcidfaaGreat.Ops
set_option linter.unusedVariables false
set_option linter.unusedSimpArgs false
theorem not_empty {b : ByteArray} (h : 1 ≤ b.size) : b.toList.isEmpty = false := by
  cases hl : b.toList.isEmpty
  · rfl
  · exfalso
    have h2 : b.toList = [] := by simpa using hl
    have h3 := eqs b ByteArray.empty
    rw [h2, show ByteArray.empty.toList = [] by decide +kernel] at h3
    have h4 : b = ByteArray.empty := by simpa using h3.symm
    subst h4
    exact absurd h (by decide)
theorem is_nil {b : ByteArray} (h : b.size = 0) : b.toList.isEmpty = true := by
  have : b = ByteArray.empty := by
    apply ext_data
    have hz : b.data.toList.length = 0 := by rw [Array.length_toList]; exact h
    rw [List.eq_nil_of_length_eq_zero hz]
    rfl
  subst this
  decide +kernel
/-- the word i of a text, what it wants filled up. -/
def wordB (t : ByteArray) (i : Nat) : ByteArray := t.extract (4 * i) (4 * i + 4) ++ fullB (4 - (t.size - 4 * i))
def wordV (a : Int) (t : ByteArray) (i : Nat) : OpV := (false, a + 4 * (i : Int), wordB t i)
def wordsN (a : Int) (t : ByteArray) (n : Nat) : List OpV := (List.range n).map (wordV a t)
def wordsL (a : Int) (t : ByteArray) : List OpV := wordsN a t ((t.size + 3) / 4)
theorem wordsN_len (a : Int) (t : ByteArray) (n : Nat) : (wordsN a t n).length = n := by simp [wordsN]
theorem wordsN_succ (a : Int) (t : ByteArray) (n : Nat) : wordsN a t (n + 1) = wordsN a t n ++ [wordV a t n] := by simp [wordsN, List.range_succ]
theorem encOp_len (x : OpV) : (encOp x).length = 3 := rfl
theorem encOp_one (x : OpV) : ∀ u ∈ encOp x, u.oneCell' = true := by
  intro u hu
  simp [encOp] at hu
  rcases hu with rfl | rfl | rfl <;> rfl
theorem infoOp : (Tryz.prog.info? 183).map (fun i => (i.zero, i.size, i.bytes)) = some (some (.agg #[.bool false, .int .i64 0, .string ⟨#[]⟩]), 3, 32) := by kernel_rfl
def restB (t : ByteArray) (k : Nat) : ByteArray := t.extract (4 * k) t.size
theorem rest_size (t : ByteArray) (k : Nat) : (restB t k).size = t.size - 4 * k := by
  unfold restB
  rw [ByteArray.size_extract]
  omega
theorem rest_next (t : ByteArray) (k : Nat) (h : 4 * k + 4 ≤ t.size) : (restB t k).extract 4 (restB t k).size = restB t (k + 1) := by
  rw [rest_size]
  unfold restB
  rw [ByteArray.extract_extract]
  congr 1 <;> omega
theorem word_full (t : ByteArray) (k : Nat) (h : 4 * k + 4 ≤ t.size) : (restB t k).extract 0 4 ++ fullB 0 = wordB t k := by
  unfold restB wordB
  rw [ByteArray.extract_extract, show 4 - (t.size - 4 * k) = 0 by omega]
  congr 2
  omega
theorem rest_last (t : ByteArray) (k : Nat) (h : t.size ≤ 4 * k + 4) : restB t (k + 1) = ByteArray.empty := by
  have hz := rest_size t (k + 1)
  apply ext_data
  have hl : (restB t (k + 1)).data.toList.length = 0 := by rw [Array.length_toList]; show (restB t (k + 1)).size = 0; omega
  rw [List.eq_nil_of_length_eq_zero hl]
  rfl
theorem word_last (t : ByteArray) (k : Nat) (h : t.size < 4 * k + 4) (h2 : 4 * k < t.size) : restB t k ++ fullB (4 - (t.size - 4 * k)) = wordB t k := by
  unfold restB wordB
  congr 1
  apply ext_data
  simp
  omega
set_option maxRecDepth 100000 in
set_option maxHeartbeats 6400000 in
theorem words_c (a : Int) (t : ByteArray) (w : World) (a0 : 0 ≤ a) (a4 : a % 4 = 0) (ha : a + (t.size : Int) ≤ 768) :
    Calls Tryz.prog 248 #[.int .i64 a, .string t] w fun e w' => ∃ A c, e = .returned (.tuple #[.slice A ((t.size + 3) / 4) c, .int .i64 0]) ∧ w'.ownsRow w.heap.size 183 3 (.slice A ((t.size + 3) / 4) c) ((t.size + 3) / 4) ((wordsL a t).flatMap encOp) ∧ Below w.heap.size w w' := by
  obtain ⟨i0, hi, hz0, hz1, hz2⟩ := info_parts infoOp
  have a1 : a ≤ 768 := by omega
  have hm4 : (a % 4 != 0) = false := by simp [a4]
  have hts : (t.size : Int) ≤ 768 - a := by omega
  have A4 := Lib.hid a4
  clear a4
  go_enter Tryz.func248, Tryz.ntmps248
  go_wp2_with fail
  go_loopg [0, 1, 6, 7] ((t.size + 3) / 4) (fun gg s0 s1 s6 _ wr => ∃ (k : Nat) (A : Option Addr) (c : Nat), k ≤ (t.size + 3) / 4 ∧ (t.size + 3) / 4 - k ≤ gg ∧ s0 = .int .i64 (a + 4 * (k : Int)) ∧ s1 = .string (restB t k) ∧ s6 = .slice A k c ∧ Aside (wr.ownsRow w.heap.size 183 3 (.slice A k c) k ((wordsN a t k).flatMap encOp)) ∧ Aside (Below w.heap.size w wr))
  case atStart => exact ⟨0, none, 0, by omega, by omega, vInt (by omega), (by show Value.string t = _; simp [restB]), rfl, World.ownsRow_nil _ _ _ _, Below.refl _ _⟩
  case round =>
    obtain ⟨k, A, c, hk, hg, rfl, rfl, rfl, BO, BW⟩ := hrel
    have HB := BW.out
    have hsize := HB.size
    have hrs := rest_size t k
    by_cases hlt : 4 * k < t.size
    · have he : (restB t k).toList.isEmpty = false := not_empty (by omega)
      by_cases hf : 4 * k + 4 ≤ t.size
      · have RN := Lib.hid (rest_next t k hf)
        have WF := Lib.hid (word_full t k hf)
        have r4 : 4 ≤ (restB t k).size := by omega
        have r5 : (4 : Int) ≤ ((restB t k).size : Int) := by omega
        have HRS := Lib.hid hrs
        clear hrs
        have hmin : min ((restB t k).size : Int) 4 = 4 := by omega
        have hmin2 : min 4 (restB t k).size = 4 := by omega
        go_upto_region 7 with fail
        have RP := Lib.hid (fun W : World => repeat_c 0 W (by decide))
        rw [show ((0 : Nat) : Int) = 0 from rfl] at RP
        have hw4 : ((restB t k).extract 0 4).size = 4 := by rw [ByteArray.size_extract]; omega
        have hf0 := full_size 0
        generalize (restB t k).extract 0 4 = W4 at *
        generalize fullB 0 = Z at *
        go_upto_region 8 with (first | (go_at_call 79; with_reducible refine (RP.out _).mono ?_; rintro e w' ⟨rfl, hb⟩; have HB := bl_step (w := w) zq0 hb; have hzB := HB.size) | (at_builtin; refine wpList_append_own _ rfl _ _ 26 rfl w.heap.size 183 i0 (.agg #[.bool false, .int .i64 0, .string ⟨#[]⟩]) 3 32 Tryz.underlying26 hi hz0 hz1 hz2 rfl (by decide) _ _ _ rfl ((own_below BO.out hb).alloc _) ⟨w'.heap.size, 0, none⟩ 1 1 [.bool false, .int .i64 (a + 4 * (k : Int)), .string (W4 ++ Z)] rfl rfl (cells_new _ _ _) (fun x hx => by simp at hx; rcases hx with rfl | rfl | rfl <;> rfl) (by unfold maxLen; omega) (by omega) (by have := HB.size; simp; omega) ?_; intro v' w3 hown' hgrow3 hnil3) | fail)
        obtain ⟨⟨g3, cv', rfl, hcv⟩, hb3⟩ := row_stepz (by decide) (own_below BO.out hb) hown' hgrow3 HB
        have hfl : (wordsN a t (k + 1)).flatMap encOp = (wordsN a t k).flatMap encOp ++ [.bool false, .int .i64 (a + 4 * (k : Int)), .string (W4 ++ Z)] := by rw [wordsN_succ, List.flatMap_append, List.flatMap_singleton, WF.out]; rfl
        rw [← hfl] at hown'
        clear hfl
        go_wp2_with fail
        go_roundg ((t.size + 3) / 4 - (k + 1))
        case measure => omega
        case rel => exact ⟨k + 1, _, cv', by omega, by omega, (by show Value.int .i64 (a + 4 * (k : Int) + 4) = _; exact vInt (by omega)), (by rw [← RN.out]), rfl, hown', hb3⟩
      · have RN := Lib.hid (rest_last t k (by omega))
        have WF := Lib.hid (word_last t k (by omega) (by omega))
        have hmin : min ((restB t k).size : Int) 4 = ((restB t k).size : Int) := by omega
        have hr4 : (restB t k).size ≤ 4 := by omega
        have RP := Lib.hid (fun W : World => repeat_c (4 - (t.size - 4 * k)) W (by omega))
        rw [show ((4 - (t.size - 4 * k) : Nat) : Int) = 4 - ((restB t k).size : Int) by omega] at RP
        have hf0 := full_size (4 - (t.size - 4 * k))
        have hf1 : (fullB (4 - (t.size - 4 * k))).size ≤ 4 := by omega
        clear hrs hf0
        generalize fullB (4 - (t.size - 4 * k)) = Z at *
        have hq : (9223372036854775807 < (restB t k).size + Z.size) = False := by simp; omega
        go_upto_region 7 with fail
        go_upto_region 8 with (first | (go_at_call 79; with_reducible refine (RP.out _).mono ?_; rintro e w' ⟨rfl, hb⟩; have HB := bl_step (w := w) zq0 hb; have hzB := HB.size) | (at_builtin; refine wpList_append_own _ rfl _ _ 26 rfl w.heap.size 183 i0 (.agg #[.bool false, .int .i64 0, .string ⟨#[]⟩]) 3 32 Tryz.underlying26 hi hz0 hz1 hz2 rfl (by decide) _ _ _ rfl ((own_below BO.out hb).alloc _) ⟨w'.heap.size, 0, none⟩ 1 1 [.bool false, .int .i64 (a + 4 * (k : Int)), .string (restB t k ++ Z)] rfl rfl (cells_new _ _ _) (fun x hx => by simp at hx; rcases hx with rfl | rfl | rfl <;> rfl) (by unfold maxLen; omega) (by omega) (by have := HB.size; simp; omega) ?_; intro v' w3 hown' hgrow3 hnil3) | fail)
        obtain ⟨⟨g3, cv', rfl, hcv⟩, hb3⟩ := row_stepz (by decide) (own_below BO.out hb) hown' hgrow3 HB
        have hfl : (wordsN a t (k + 1)).flatMap encOp = (wordsN a t k).flatMap encOp ++ [.bool false, .int .i64 (a + 4 * (k : Int)), .string (restB t k ++ Z)] := by rw [wordsN_succ, List.flatMap_append, List.flatMap_singleton, WF.out]; rfl
        rw [← hfl] at hown'
        clear hfl
        go_wp2_with fail
        go_roundg ((t.size + 3) / 4 - (k + 1))
        case measure => omega
        case rel => exact ⟨k + 1, _, cv', by omega, by omega, (by show Value.int .i64 (a + 4 * (k : Int) + 4) = _; exact vInt (by omega)), (by rw [RN.out]), rfl, hown', hb3⟩
    · obtain rfl : k = (t.size + 3) / 4 := by omega
      have he : (restB t ((t.size + 3) / 4)).toList.isEmpty = true := is_nil (by omega)
      have hown := BO.out
      clear hrs
      go_wp2_with fail
      go_ret2
      exact ⟨A, c, rfl, hown, HB⟩
end Go.Proofs.YtccblleobcidfaaGreat.Pl
end
/- Layer 3: the references' Words. -/
section
namespace Go.Proofs.YtccblleobcidfaaGreat.Pl
open Go.RowKit Go.Proofs.YtccblleobcidfaaGreat.Kt Go.Proofs.YtccblleobcidfaaGreat.Lw Go.Proofs.YtccblleobcidfaaGreat.St Go.Proofs.YtccblleobcidfaaGreat.Nm Go.Proofs.YtccblleobcidfaaGreat.By Go.Proofs.YtccblleobcidfaaGreat.En Go.Proofs.YtccblleobcidfaaGreat.Jr Go.Proofs.YtccblleobcidfaaGreat.Sl Go.Proofs.YtccblleobcidfaaGreat.Gr Go.Proofs.YtccblleobcidfaaGreat.Ops
set_option linter.unusedVariables false
set_option linter.unusedSimpArgs false
def padB (t : ByteArray) : ByteArray := t ++ fullB ((4 - t.size % 4) % 4)
theorem pad_size (t : ByteArray) : (padB t).size = 4 * ((t.size + 3) / 4) := by
  unfold padB
  rw [ByteArray.size_append, full_size]
  omega
theorem pad_word (t : ByteArray) (k : Nat) (h : k < (t.size + 3) / 4) : (padB t).extract (4 * k) (4 * k + 4) = wordB t k := by
  unfold padB wordB
  by_cases hf : 4 * k + 4 ≤ t.size
  · rw [show 4 - (t.size - 4 * k) = 0 by omega]
    apply ext_data
    have hl : t.data.toList.length = t.size := by rw [Array.length_toList]; rfl
    simp only [ByteArray.data_extract, ByteArray.data_append, Array.toList_extract, Array.toList_append, List.extract, fullB, List.replicate_zero]
    rw [List.drop_append_of_le_length (by omega), List.take_append_of_le_length (by rw [List.length_drop]; omega)]
    simp
  · have e : (4 - t.size % 4) % 4 = 4 - (t.size - 4 * k) := by omega
    rw [e]
    apply ext_data
    have hl : t.data.toList.length = t.size := by rw [Array.length_toList]; rfl
    simp only [ByteArray.data_extract, ByteArray.data_append, Array.toList_extract, Array.toList_append, List.extract, fullB]
    rw [List.drop_append_of_le_length (by omega), List.take_append]
    simp only [List.length_drop, hl, List.take_replicate, List.toList_toArray]
    congr 2
    omega
end Go.Proofs.YtccblleobcidfaaGreat.Pl
end
/- Layer 8: where the next record goes: what the program's and the references' Append answer. -/
section
namespace Go.Proofs.YtccblleobcidfaaGreat.Pl
open Go.RowKit Go.Proofs.YtccblleobcidfaaGreat.Kt Go.Proofs.YtccblleobcidfaaGreat.Lw Go.Proofs.YtccblleobcidfaaGreat.St Go.Proofs.YtccblleobcidfaaGreat.Nm Go.Proofs.YtccblleobcidfaaGreat.By Go.Proofs.YtccblleobcidfaaGreat.En Go.Proofs.YtccblleobcidfaaGreat.Jr Go.Proofs.YtccblleobcidfaaGreat.Im Go.Proofs.YtccblleobcidfaaGreat.Sl Go.Proofs.YtccblleobcidfaaGreat.Gr Go.Proofs.YtccblleobcidfaaGreat.Ops Go.Proofs.YtccblleobcidfaaGreat.Ch
set_option linter.unusedVariables false
set_option linter.unusedSimpArgs false
attribute [local irreducible] gotB goodB Cr.crcB nQ nS nZ nM placeB wholeB
/-- the sector of the active record. -/
def homeN (f : ByteArray) : Nat := match activeO f with | some p => (p.at_ / 96).toNat | none => 0
theorem home_some {f : ByteArray} {p : PlV} (h : activeO f = some p) : homeN f = (p.at_ / 96).toNat := by simp only [homeN, h]
theorem home_none {f : ByteArray} (h : activeO f = none) : homeN f = 0 := by simp only [homeN, h]
theorem act_ok {f : ByteArray} {p : PlV} (h : activeO f = some p) : PlOk f p := by
  have k := active_best f
  rw [h] at k
  exact scan_ok k.mem
theorem home_lt (f : ByteArray) : homeN f < 2 := by
  cases h : activeO f with
  | none => rw [home_none h]; decide
  | some p =>
    have := (act_ok h).at_rng
    rw [home_some h]
    omega
/-- where a record goes, and the steps. -/
def spotN (f : ByteArray) : Int := match freeO f (homeN f) with | some k => 24 * (k : Int) | none => (1 - (homeN f : Int)) * 96
def headL (f : ByteArray) : List OpV := match freeO f (homeN f) with | some _ => [] | none => [(true, (1 - (homeN f : Int)) * 96, ⟨#[]⟩)]
def appL (f : ByteArray) (q s z m : Int) : List OpV := headL f ++ wordsL (spotN f) (wholeB q s z m)
theorem free_lt {f : ByteArray} : ∀ (n k j : Nat), freeFrom f k n = some j → k ≤ j ∧ j < k + n
  | 0, k, j, h => by simp [freeFrom] at h
  | n + 1, k, j, h => by
    unfold freeFrom at h
    by_cases hp : placeB f k = fullB 24
    · rw [if_pos hp] at h
      have := Option.some.inj h
      omega
    · rw [if_neg hp] at h
      have := free_lt n (k + 1) j h
      omega
theorem freeO_lt {f : ByteArray} {s k : Nat} (h : freeO f s = some k) : 4 * s ≤ k ∧ k < 4 * s + 4 := free_lt 4 (4 * s) k h
theorem freeV_some {f : ByteArray} {s k : Nat} (h : freeO f s = some k) : freeV f s = #[.int .i64 (24 * (k : Int)), .bool true, .int .i64 0] := by simp [freeV, freeA, h]
theorem freeV_none {f : ByteArray} {s : Nat} (h : freeO f s = none) : freeV f s = #[.int .i64 0, .bool false, .int .i64 0] := by simp [freeV, freeA, h]
set_option maxHeartbeats 3200000 in
theorem home_c (f : ByteArray) (w : World) (hf : f.size = 768) : Calls Tryz.prog 246 #[.string f] w fun e w' => e = .returned (.int .i64 (homeN f)) ∧ Below w.heap.size w w' := by
  have HB := Below.refl w.heap.size w
  have ac := Lib.hid (fun W : World => active_c f W hf)
  cases ho : activeO f with
  | none =>
    have hv := act_none ho
    rw [hv.1, hv.2] at ac
    have hh := Lib.hid (home_none ho)
    clear ho hv
    go_enter Tryz.func246, Tryz.ntmps246
    go_wp2_with (first | (go_at_call 64; with_reducible refine (ac.out _).mono ?_; rintro e w' ⟨rfl, hb⟩; have HB := bl_step (w := w) zq0 hb; have hzB := HB.size; have K1 := fun cs => Blk.new w' cs 69) | fail)
    go_ret
    exact ⟨by rw [hh.out]; rfl, zq1⟩
  | some p =>
    have hv := act_some ho
    rw [hv.1, hv.2] at ac
    have hr := (act_ok ho).at_rng
    obtain ⟨hr0, hr1⟩ := hr
    have hh := Lib.hid (show (homeN f : Int) = p.at_ / 96 by rw [home_some ho]; omega)
    clear ho hv
    go_enter Tryz.func246, Tryz.ntmps246
    go_wp2_with (first | (go_at_call 64; with_reducible refine (ac.out _).mono ?_; rintro e w' ⟨rfl, hb⟩; have HB := bl_step (w := w) zq0 hb; have hzB := HB.size; have K1 := fun cs => Blk.new w' cs 69) | fail)
    go_ret
    exact ⟨by rw [hh.out]; rfl, zq1⟩
theorem words24_c (a : Int) (t : ByteArray) (w : World) (a0 : 0 ≤ a) (a4 : a % 4 = 0) (ha : a ≤ 700) (ht : t.size = 24) :
    Calls Tryz.prog 248 #[.int .i64 a, .string t] w fun e w' => ∃ A c, e = .returned (.tuple #[.slice A 6 c, .int .i64 0]) ∧ w'.ownsRow w.heap.size 183 3 (.slice A 6 c) 6 ((wordsL a t).flatMap encOp) ∧ Below w.heap.size w w' := by
  have h := words_c a t w a0 a4 (by omega)
  rwa [ht] at h
theorem words24_len {a : Int} {t : ByteArray} (ht : t.size = 24) : (wordsL a t).length = 6 := by
  unfold wordsL
  rw [wordsN_len, ht]
def appY (f : ByteArray) (q s z m : Int) (w : World) (e : Ending) (w' : World) : Prop := ∃ (A : Option Addr) (c : Nat), e = .returned (.tuple #[.slice A (appL f q s z m).length c, .int .i64 0]) ∧ w'.ownsRow w.heap.size 183 3 (.slice A (appL f q s z m).length c) (appL f q s z m).length ((appL f q s z m).flatMap encOp) ∧ Below w.heap.size w w'
end Go.Proofs.YtccblleobcidfaaGreat.Pl
end
/- Layer 8: the program's Append. -/
section
namespace Go.Proofs.YtccblleobcidfaaGreat.Pl
open Go.RowKit Go.Proofs.YtccblleobcidfaaGreat.Kt Go.Proofs.YtccblleobcidfaaGreat.Lw Go.Proofs.YtccblleobcidfaaGreat.St Go.Proofs.YtccblleobcidfaaGreat.Nm Go.Proofs.YtccblleobcidfaaGreat.By Go.Proofs.YtccblleobcidfaaGreat.En Go.Proofs.YtccblleobcidfaaGreat.Jr Go.Proofs.YtccblleobcidfaaGreat.Im Go.Proofs.YtccblleobcidfaaGreat.Sl Go.Proofs.YtccblleobcidfaaGreat.Gr Go.Proofs.YtccblleobcidfaaGreat.Ops Go.Proofs.YtccblleobcidfaaGreat.Ch
set_option linter.unusedVariables false
set_option linter.unusedSimpArgs false
attribute [local irreducible] gotB goodB Cr.crcB nQ nS nZ nM placeB wholeB
set_option maxRecDepth 100000 in
set_option maxHeartbeats 6400000 in
theorem append_yes (f : ByteArray) (q s z m : Int) (w : World) (hf : f.size = 768) (hm : recMay q s z m = true) :
    Calls Tryz.prog 192 #[.string f, .agg #[.int .i64 q, .int .i64 s, .int .i64 z, .int .i64 m]] w (appY f q s z m w) := by
  obtain ⟨i0, hi, hz0, hz1, hz2⟩ := info_parts infoOp
  have HB := Below.refl w.heap.size w
  have K0 := Blk.new w #[.int .i64 q, .int .i64 s, .int .i64 z, .int .i64 m] 67
  have mm := Lib.hid (fun W : World => may_c f W (by omega))
  rw [decide_eq_true hf] at mm
  have pp := Lib.hid (fun W : World => put_c q s z m W)
  have hv : putB q s z m = wholeB q s z m ∧ putE q s z m = 0 := by simp [putB, putE, hm]
  rw [hv.1, hv.2] at pp
  have hhm := Lib.hid (fun W : World => home_c f W hf)
  have hl := home_lt f
  have fr := Lib.hid (fun W : World => free_c f (homeN f) W hf hl)
  have ht := whole_size q s z m
  have hwl := Lib.hid (fun a : Int => words24_len (a := a) ht)
  cases ho : freeO f (homeN f) with
  | some k =>
    have hk := freeO_lt ho
    rw [freeV_some ho] at fr
    have wd := Lib.hid (fun W : World => words24_c (24 * (k : Int)) (wholeB q s z m) W (by omega) (by omega) (by omega) ht)
    have hap := Lib.hid (show appL f q s z m = [] ++ wordsL (24 * (k : Int)) (wholeB q s z m) by simp only [appL, headL, spotN, ho])
    have hal : (appL f q s z m).length = 6 := by rw [hap.out, List.nil_append]; exact words24_len ht
    have HAL := Lib.hid hal
    clear hm hf hv ho hk ht hal
    generalize homeN f = h at *
    generalize wholeB q s z m = T at *
    go_enter Tryz.func192, Tryz.ntmps192
    go_upto_region 11 with (first | (go_at_call 245; with_reducible refine (pp.out _).mono ?_; rintro e w' ⟨rfl, hb⟩; have HB := bl_step (w := w) zq0 hb; have hzB := HB.size; have K0 := Blk.on zq3 zq14 hb; (try clear cK0_0 cK0_1 cK0_2 cK0_3 fK0 lK0 nK0 mK0); obtain ⟨cK0_0, cK0_1, cK0_2, cK0_3, fK0, lK0, nK0, mK0⟩ := Blk.all4 K0) | (go_at_call 76; with_reducible refine (mm.out _).mono ?_; rintro e w' ⟨rfl, rfl⟩) | (go_at_call 246; with_reducible refine (hhm.out _).mono ?_; rintro e w' ⟨rfl, hb⟩; have HB := bl_step (w := w) zq0 hb; have hzB := HB.size; have K0 := Blk.on zq3 zq14 hb; (try clear cK0_0 cK0_1 cK0_2 cK0_3 fK0 lK0 nK0 mK0); obtain ⟨cK0_0, cK0_1, cK0_2, cK0_3, fK0, lK0, nK0, mK0⟩ := Blk.all4 K0) | (go_at_call 247; with_reducible refine (fr.out _).mono ?_; rintro e w' ⟨rfl, hb⟩; have HB := bl_step (w := w) zq0 hb; have hzB := HB.size; have K0 := Blk.on zq3 zq14 hb; (try clear cK0_0 cK0_1 cK0_2 cK0_3 fK0 lK0 nK0 mK0); obtain ⟨cK0_0, cK0_1, cK0_2, cK0_3, fK0, lK0, nK0, mK0⟩ := Blk.all4 K0) | (go_at_call 248; (with_reducible refine (wd.out _).mono ?_); rintro e w' ⟨A, c, rfl, hown, hb⟩; have HB := bl_step (w := w) HB hb) | fail)
    have LW := lies_own encOp_len hown (hwl.out _)
    go_wp2_with (first | (at_builtin; refine wpList_grow rfl _ _ 26 rfl w' w.heap.size 183 i0 (.agg #[.bool false, .int .i64 0, .string ⟨#[]⟩]) 32 Tryz.underlying26 hi hz0 hz1 hz2 rfl (by decide) encOp_len encOp_one (.slice none 0 0) rfl 0 [] (World.ownsRow_nil _ _ _ _) A 6 c rfl (wordsL (24 * (k : Int)) T) LW (hwl.out _) (by decide) (by decide) HB.size ?_; intro A' c' w3 hown' hgrow3 hat3) | fail)
    go_ret2
    refine ⟨A', c', by rw [HAL.out]; rfl, ?_, bl_grown HB hgrow3 (fun g hg => by simp [Value.ownBlock] at hg)⟩
    rw [HAL.out, hap.out]
    exact hown'
  | none =>
    rw [freeV_none ho] at fr
    have bg := Lib.hid (fun W : World => begin_c (1 - (homeN f : Int)) W (by omega) (by omega))
    have wd := Lib.hid (fun W : World => words24_c ((1 - (homeN f : Int)) * 96) (wholeB q s z m) W (by omega) (by omega) (by omega) ht)
    have hap := Lib.hid (show appL f q s z m = [(true, (1 - (homeN f : Int)) * 96, (⟨#[]⟩ : ByteArray))] ++ wordsL ((1 - (homeN f : Int)) * 96) (wholeB q s z m) by simp only [appL, headL, spotN, ho])
    have hal : (appL f q s z m).length = 7 := by rw [hap.out, List.length_append, words24_len ht]; rfl
    have HAL := Lib.hid hal
    clear hm hf hv ho ht hal
    generalize homeN f = h at *
    generalize wholeB q s z m = T at *
    go_enter Tryz.func192, Tryz.ntmps192
    go_upto_region 9 with (first | (go_at_call 245; with_reducible refine (pp.out _).mono ?_; rintro e w' ⟨rfl, hb⟩; have HB := bl_step (w := w) zq0 hb; have hzB := HB.size; have K0 := Blk.on zq3 zq14 hb; (try clear cK0_0 cK0_1 cK0_2 cK0_3 fK0 lK0 nK0 mK0); obtain ⟨cK0_0, cK0_1, cK0_2, cK0_3, fK0, lK0, nK0, mK0⟩ := Blk.all4 K0) | (go_at_call 76; with_reducible refine (mm.out _).mono ?_; rintro e w' ⟨rfl, rfl⟩) | (go_at_call 246; with_reducible refine (hhm.out _).mono ?_; rintro e w' ⟨rfl, hb⟩; have HB := bl_step (w := w) zq0 hb; have hzB := HB.size; have K0 := Blk.on zq3 zq14 hb; (try clear cK0_0 cK0_1 cK0_2 cK0_3 fK0 lK0 nK0 mK0); obtain ⟨cK0_0, cK0_1, cK0_2, cK0_3, fK0, lK0, nK0, mK0⟩ := Blk.all4 K0) | (go_at_call 247; with_reducible refine (fr.out _).mono ?_; rintro e w' ⟨rfl, hb⟩; have HB := bl_step (w := w) zq0 hb; have hzB := HB.size; have K0 := Blk.on zq3 zq14 hb; (try clear cK0_0 cK0_1 cK0_2 cK0_3 fK0 lK0 nK0 mK0); obtain ⟨cK0_0, cK0_1, cK0_2, cK0_3, fK0, lK0, nK0, mK0⟩ := Blk.all4 K0) | (go_at_call 214; with_reducible refine (bg.out _).mono ?_; rintro e w' ⟨rfl, rfl⟩) | fail)
    go_upto_region 10 with (first | (at_builtin; refine wpList_append_own _ rfl _ _ 26 rfl w.heap.size 183 i0 (.agg #[.bool false, .int .i64 0, .string ⟨#[]⟩]) 3 32 Tryz.underlying26 hi hz0 hz1 hz2 rfl (by decide) _ _ _ rfl (World.ownsRow_nil _ _ _ _) ⟨w'.heap.size, 0, none⟩ 1 1 [.bool true, .int .i64 ((1 - (h : Int)) * 96), .string ⟨#[]⟩] rfl rfl (cells_new _ _ _) (fun x hx => by simp at hx; rcases hx with rfl | rfl | rfl <;> rfl) (by decide) (by decide) (by have := HB.size; simp; omega) ?_; intro v' w3 hown' hgrow3 hnil3) | fail)
    obtain ⟨⟨g3, cv', rfl, hcv⟩, hb3⟩ := row_stepz (by decide) (World.ownsRow_nil _ _ _ _) hown' hgrow3 HB
    have hg3 : w.heap.size ≤ g3 := (hown'.lt g3 rfl).1
    go_upto_region 11 with (first | (go_at_call 248; (with_reducible refine (wd.out _).mono ?_); rintro e w4 ⟨A, c, rfl, hown4, hb4⟩) | fail)
    have HB4 := bl_step hb3 hb4
    have LW := lies_own encOp_len hown4 (hwl.out _)
    have hown5 : w4.ownsRow w.heap.size 183 3 (.slice (some ⟨g3, 0, none⟩) 1 cv') 1 ([(true, (1 - (h : Int)) * 96, (⟨#[]⟩ : ByteArray))].flatMap encOp) := own_below hown' hb4
    go_wp2_with (first | (at_builtin; refine wpList_grow rfl _ _ 26 rfl w4 w.heap.size 183 i0 (.agg #[.bool false, .int .i64 0, .string ⟨#[]⟩]) 32 Tryz.underlying26 hi hz0 hz1 hz2 rfl (by decide) encOp_len encOp_one (.slice (some ⟨g3, 0, none⟩) 1 cv') rfl 1 [(true, (1 - (h : Int)) * 96, (⟨#[]⟩ : ByteArray))] hown5 A 6 c rfl (wordsL ((1 - (h : Int)) * 96) T) LW (hwl.out _) (by decide) (by decide) HB4.size ?_; intro A' c' w5 hown6 hgrow5 hat5) | fail)
    go_ret2
    refine ⟨A', c', by rw [HAL.out]; rfl, ?_, bl_grown HB4 hgrow5 (fun g hg => by simp [Value.ownBlock] at hg; omega)⟩
    rw [HAL.out, hap.out]
    exact hown6
end Go.Proofs.YtccblleobcidfaaGreat.Pl
end
/- Layer 8: the references' Append. -/
section
namespace Go.Proofs.YtccblleobcidfaaGreat.Pl
open Go.RowKit Go.Proofs.YtccblleobcidfaaGreat.Kt Go.Proofs.YtccblleobcidfaaGreat.Lw Go.Proofs.YtccblleobcidfaaGreat.St Go.Proofs.YtccblleobcidfaaGreat.Nm Go.Proofs.YtccblleobcidfaaGreat.By Go.Proofs.YtccblleobcidfaaGreat.En Go.Proofs.YtccblleobcidfaaGreat.Jr Go.Proofs.YtccblleobcidfaaGreat.Im Go.Proofs.YtccblleobcidfaaGreat.Sl Go.Proofs.YtccblleobcidfaaGreat.Gr Go.Proofs.YtccblleobcidfaaGreat.Ops Go.Proofs.YtccblleobcidfaaGreat.Ch
set_option linter.unusedVariables false
set_option linter.unusedSimpArgs false
attribute [local irreducible] gotB goodB Cr.crcB nQ nS nZ nM placeB wholeB
end Go.Proofs.YtccblleobcidfaaGreat.Pl
end
/- Layer 9: the next record, of what stands in a slot: what the references' RecordOf answers. -/
section
namespace Go.Proofs.YtccblleobcidfaaGreat.Pl
open Go.RowKit Go.Proofs.YtccblleobcidfaaGreat.Kt Go.Proofs.YtccblleobcidfaaGreat.Lw Go.Proofs.YtccblleobcidfaaGreat.St Go.Proofs.YtccblleobcidfaaGreat.Nm Go.Proofs.YtccblleobcidfaaGreat.By Go.Proofs.YtccblleobcidfaaGreat.En Go.Proofs.YtccblleobcidfaaGreat.Jr Go.Proofs.YtccblleobcidfaaGreat.Im Go.Proofs.YtccblleobcidfaaGreat.Sl Go.Proofs.YtccblleobcidfaaGreat.Ch
set_option linter.unusedVariables false
set_option linter.unusedSimpArgs false
attribute [local irreducible] gotB goodB Cr.crcB nQ nS nZ nM placeB
def recOk (f : ByteArray) (s z : Int) : Bool := decide (f.size = 768) && (rngB s 0 1 && rngB z 1 288)
def recV (f : ByteArray) (s z : Int) : Array Value := if recOk f s z = true ∧ ¬ maxL (scanL f) = 1048576 then #[.int .i64 (maxL (scanL f) + 1), .int .i64 s, .int .i64 z, .int .i64 (Cr.crcB (imgB f s z))] else #[.int .i64 0, .int .i64 0, .int .i64 0, .int .i64 0]
def recE (f : ByteArray) (s z : Int) : Int := if recOk f s z = true then (if maxL (scanL f) = 1048576 then 801 else 0) else 900
theorem max_all (f : ByteArray) : 0 ≤ maxL (scanL f) ∧ maxL (scanL f) ≤ 1048576 := by
  have h := max_bd (f := f) (scanL f).length
  rwa [List.take_length] at h
end Go.Proofs.YtccblleobcidfaaGreat.Pl
end
/- Layers 2, 3: the references' flash: a word torn. -/
section
namespace Go.Proofs.YtccblleobcidfaaGreat.Fl
open Go.RowKit Go.Proofs.YtccblleobcidfaaGreat.Kt Go.Proofs.YtccblleobcidfaaGreat.Lw Go.Proofs.YtccblleobcidfaaGreat.St Go.Proofs.YtccblleobcidfaaGreat.Nm Go.Proofs.YtccblleobcidfaaGreat.By Go.Proofs.YtccblleobcidfaaGreat.En Go.Proofs.YtccblleobcidfaaGreat.Jr Go.Proofs.YtccblleobcidfaaGreat.Ops
set_option linter.unusedVariables false
set_option linter.unusedSimpArgs false
/-- a byte whose bit k is cleared where the word's is. -/
def clrB (b w : Int) (k : Nat) : Int := if w / 2 ^ k % 2 = 0 then Go.bits .andNot .u8 b (2 ^ k % 256) else b
/-- four bytes, the first i bits of a word programmed. -/
def tearF (b w : Nat → Int) : Nat → Nat → Int
  | 0 => b
  | i + 1 => fun j => if j = i / 8 then clrB (tearF b w i j) (w j) (i % 8) else tearF b w i j
theorem andNot8 {x y : Int} (h0 : 0 ≤ x) (h1 : x < 256) : 0 ≤ Go.bits .andNot .u8 x y ∧ Go.bits .andNot .u8 x y < 256 := by
  have e : Go.bits .andNot .u8 x y = IntKind.u8.wrap (((BitVec.ofInt 8 x &&& ~~~ BitVec.ofInt 8 y).toNat : Nat) : Int) := rfl
  rw [e]
  simp only [IntKind.wrap_u8]
  omega
theorem clr_bd {b w : Int} {k : Nat} (h0 : 0 ≤ b) (h1 : b < 256) : 0 ≤ clrB b w k ∧ clrB b w k < 256 := by
  unfold clrB
  split
  · exact andNot8 h0 h1
  · exact ⟨h0, h1⟩
theorem tear_bd {b w : Nat → Int} (hb : ∀ j, 0 ≤ b j ∧ b j < 256) : ∀ i j, 0 ≤ tearF b w i j ∧ tearF b w i j < 256
  | 0, j => hb j
  | i + 1, j => by
    have ih := tear_bd (w := w) hb i j
    unfold tearF
    split
    · exact clr_bd ih.1 ih.2
    · exact ih
/-- the four bytes as a text. -/
def tearB (f : ByteArray) (a : Nat) (t : ByteArray) (n : Nat) : ByteArray := strOfNums ((List.range 4).map (tearF (fun j => byt f (a + j)) (byt t) n))
def tornB (f : ByteArray) (a : Nat) (t : ByteArray) (n : Nat) : ByteArray := f.extract 0 a ++ tearB f a t n ++ f.extract (a + 4) f.size
theorem tear_size (f : ByteArray) (a : Nat) (t : ByteArray) (n : Nat) : (tearB f a t n).size = 4 := by simp [tearB, strOfNums, ByteArray.size]
theorem torn_size {f : ByteArray} {a : Nat} (t : ByteArray) (n : Nat) (h : a + 4 ≤ f.size) : (tornB f a t n).size = f.size := by
  unfold tornB
  rw [ByteArray.size_append, ByteArray.size_append, tear_size, ByteArray.size_extract, ByteArray.size_extract]
  omega
theorem byt_ex (f : ByteArray) (a b j : Nat) (h : a + j < b) (hb : b ≤ f.size) : byt (f.extract a b) j = byt f (a + j) := by
  have hl : f.data.toList.length = f.size := by rw [Array.length_toList]; rfl
  unfold byt
  congr 1
  simp only [ByteArray.data_extract, Array.toList_extract, List.extract, List.getD_eq_getElem?_getD]
  rw [List.getElem?_take, if_pos (by omega), List.getElem?_drop]
theorem byt_tear (f : ByteArray) (a : Nat) (t : ByteArray) (n : Nat) {j : Nat} (h : j < 4) : byt (tearB f a t n) j = tearF (fun j => byt f (a + j)) (byt t) n j := by
  have hb := tear_bd (b := fun j => byt f (a + j)) (w := byt t) (fun j => byt_bd f _) n j
  unfold byt tearB
  simp only [strOfNums, List.getD_eq_getElem?_getD, List.map_map, List.getElem?_map, List.getElem?_range h, Option.map_some, Option.getD_some]
  exact byte_back _ hb.1 hb.2
end Go.Proofs.YtccblleobcidfaaGreat.Fl
end
/- Layers 2, 3: the references' flash: Worn, Cut, Do, Blank. -/
section
namespace Go.Proofs.YtccblleobcidfaaGreat.Fl
open Go.RowKit Go.Proofs.YtccblleobcidfaaGreat.Kt Go.Proofs.YtccblleobcidfaaGreat.Lw Go.Proofs.YtccblleobcidfaaGreat.St Go.Proofs.YtccblleobcidfaaGreat.Nm Go.Proofs.YtccblleobcidfaaGreat.By Go.Proofs.YtccblleobcidfaaGreat.En Go.Proofs.YtccblleobcidfaaGreat.Jr Go.Proofs.YtccblleobcidfaaGreat.Ops
set_option linter.unusedVariables false
set_option linter.unusedSimpArgs false
def wornB (f : ByteArray) (s n : Nat) : ByteArray := f.extract 0 (s * 96) ++ fullB n ++ f.extract (s * 96 + n) f.size
theorem worn_size {f : ByteArray} {s n : Nat} (h : s * 96 + n ≤ f.size) : (wornB f s n).size = f.size := by
  unfold wornB
  rw [ByteArray.size_append, ByteArray.size_append, full_size, ByteArray.size_extract, ByteArray.size_extract]
  omega
/-- so much of a step. -/
def cutB (f : ByteArray) (o : OpV) (n : Nat) : ByteArray := bif o.1 then wornB f (o.2.1 / 96).toNat n else tornB f o.2.1.toNat o.2.2 (min n 32)
def cutV (f : ByteArray) (o : OpV) (n : Int) : Array Value := if f.size = 768 ∧ opMay o = true ∧ 0 ≤ n ∧ n ≤ 96 then #[.string (cutB f o n.toNat), .int .i64 0] else #[.string ⟨#[]⟩, .int .i64 300]
theorem op_erase {o : OpV} (h : opMay o = true) (he : o.1 = true) : 0 ≤ o.2.1 ∧ o.2.1 ≤ 672 ∧ o.2.1 % 96 = 0 := by
  simp [opMay, he, rngB] at h
  omega
theorem op_word {o : OpV} (h : opMay o = true) (he : o.1 = false) : 0 ≤ o.2.1 ∧ o.2.1 ≤ 764 ∧ o.2.1 % 4 = 0 ∧ o.2.2.size = 4 := by
  simp [opMay, he, rngB, bgnB] at h
  omega
theorem ret2 {a b : Array Value} (h : a = b) : Ending.returned (.tuple a) = Ending.returned (.tuple b) := by rw [h]
def doB (f : ByteArray) (o : OpV) : ByteArray := cutB f o 96
def doV (f : ByteArray) (o : OpV) : Array Value := cutV f o 96
theorem do_yes {f : ByteArray} {o : OpV} (hf : f.size = 768) (hm : opMay o = true) : doV f o = #[.string (doB f o), .int .i64 0] := by simp [doV, cutV, hf, hm, doB]
theorem cut_size {f : ByteArray} {o : OpV} {n : Nat} (hf : f.size = 768) (hm : opMay o = true) (hn : n ≤ 96) : (cutB f o n).size = 768 := by
  cases he : o.1
  · obtain ⟨a0, a1, a2, a3⟩ := op_word hm he
    simp only [cutB, he, cond_false]
    rw [torn_size _ _ (by omega)]
    exact hf
  · obtain ⟨a0, a1, a2⟩ := op_erase hm he
    simp only [cutB, he, cond_true]
    rw [worn_size (by omega)]
    exact hf
theorem do_size {f : ByteArray} {o : OpV} (hf : f.size = 768) (hm : opMay o = true) : (doB f o).size = 768 := cut_size hf hm (Nat.le_refl _)
theorem blank_c (w : World) : Calls Tryz.prog 43 #[] w fun e w' => e = .returned (.string (fullB 768)) ∧ Below w.heap.size w w' := by
  have HB := Below.refl w.heap.size w
  have fl := Lib.hid (fun W : World => rfull_c 768 (by decide) W)
  rw [show ((768 : Nat) : Int) = 768 from rfl] at fl
  go_enter Tryz.func43, Tryz.ntmps43
  go_wp2_with (first | (go_at_call 108; with_reducible refine (fl.out _).mono ?_; rintro e w' ⟨rfl, hb⟩; have HB := bl_step (w := w) zq0 hb; have hzB := HB.size) | fail)
  go_ret
  exact ⟨rfl, HB⟩
end Go.Proofs.YtccblleobcidfaaGreat.Fl
end
/- The flash in plain Lean: bytes behind steps; a text written where it is blank. -/
section
namespace Go.Proofs.YtccblleobcidfaaGreat.Fl
open Go.RowKit Go.Proofs.YtccblleobcidfaaGreat.Kt Go.Proofs.YtccblleobcidfaaGreat.Lw Go.Proofs.YtccblleobcidfaaGreat.St Go.Proofs.YtccblleobcidfaaGreat.Nm Go.Proofs.YtccblleobcidfaaGreat.By Go.Proofs.YtccblleobcidfaaGreat.En Go.Proofs.YtccblleobcidfaaGreat.Jr Go.Proofs.YtccblleobcidfaaGreat.Ops Go.Proofs.YtccblleobcidfaaGreat.Pl
set_option linter.unusedVariables false
set_option linter.unusedSimpArgs false
theorem byt_ext {a b : ByteArray} (hs : a.size = b.size) (h : ∀ j, j < a.size → byt a j = byt b j) : a = b := by
  have la : a.data.toList.length = a.size := by rw [Array.length_toList]; rfl
  have lb : b.data.toList.length = b.size := by rw [Array.length_toList]; rfl
  apply ext_data
  apply List.ext_getElem (by omega)
  intro j h1 h2
  have hj := h j (by omega)
  unfold byt at hj
  simp only [List.getD_eq_getElem?_getD, List.getElem?_eq_getElem h1, List.getElem?_eq_getElem h2, Option.getD_some] at hj
  exact UInt8.toNat_inj.1 (by omega)
theorem byt_app (a b : ByteArray) (j : Nat) : byt (a ++ b) j = if j < a.size then byt a j else byt b (j - a.size) := by
  by_cases h : j < a.size
  · rw [if_pos h, byt_left a b h]
  · rw [if_neg h]
    have := byt_right a b (j - a.size)
    rwa [show a.size + (j - a.size) = j by omega] at this
theorem byt_full {k j : Nat} (h : j < k) : byt (fullB k) j = 255 := by
  unfold byt fullB
  simp [List.getD_eq_getElem?_getD, h]
theorem byt_over {s : ByteArray} {j : Nat} (h : s.size ≤ j) : byt s j = 0 := by
  have l : s.data.toList.length = s.size := by rw [Array.length_toList]; rfl
  unfold byt
  rw [List.getD_eq_getElem?_getD, List.getElem?_eq_none (by omega)]
  rfl
/-- behind a word's tearing. -/
theorem byt_torn {f : ByteArray} {a : Nat} (t : ByteArray) (n : Nat) (h : a + 4 ≤ f.size) {j : Nat} (hj : j < f.size) :
    byt (tornB f a t n) j = if a ≤ j ∧ j < a + 4 then tearF (fun i => byt f (a + i)) (byt t) n (j - a) else byt f j := by
  have s1 : (f.extract 0 a).size = a := by rw [ByteArray.size_extract]; omega
  have s2 := tear_size f a t n
  unfold tornB
  rw [byt_app, ByteArray.size_append, s1, s2]
  by_cases h1 : j < a + 4
  · rw [if_pos h1, byt_app, s1]
    by_cases h2 : j < a
    · rw [if_pos h2, if_neg (by omega), byt_ex f 0 a j (by omega) (by omega)]
      congr 1
      omega
    · rw [if_neg h2, if_pos (by omega), byt_tear f a t n (by omega)]
  · rw [if_neg h1, if_neg (by omega), byt_ex f (a + 4) f.size (j - (a + 4)) (by omega) (Nat.le_refl _)]
    congr 1
    omega
theorem byt_worn {f : ByteArray} {s n : Nat} (h : s * 96 + n ≤ f.size) {j : Nat} (hj : j < f.size) : byt (wornB f s n) j = if s * 96 ≤ j ∧ j < s * 96 + n then 255 else byt f j := by
  have s1 : (f.extract 0 (s * 96)).size = s * 96 := by rw [ByteArray.size_extract]; omega
  have s2 := full_size n
  unfold wornB
  rw [byt_app, ByteArray.size_append, s1, s2]
  by_cases h1 : j < s * 96 + n
  · rw [if_pos h1, byt_app, s1]
    by_cases h2 : j < s * 96
    · rw [if_pos h2, if_neg (by omega), byt_ex f 0 (s * 96) j (by omega) (by omega)]
      congr 1
      omega
    · rw [if_neg h2, if_pos (by omega), byt_full (by omega)]
  · rw [if_neg h1, if_neg (by omega), byt_ex f (s * 96 + n) f.size (j - (s * 96 + n)) (by omega) (Nat.le_refl _)]
    congr 1
    omega
/-- all eight bits. -/
def clr8 (x y : Int) : Int := clrB (clrB (clrB (clrB (clrB (clrB (clrB (clrB x y 0) y 1) y 2) y 3) y 4) y 5) y 6) y 7
theorem tear_all (b w : Nat → Int) {j : Nat} (h : j < 4) : tearF b w 32 j = clr8 (b j) (w j) := by
  rcases j with _ | _ | _ | _ | j
  · kernel_rfl
  · kernel_rfl
  · kernel_rfl
  · kernel_rfl
  · omega
theorem clr_blank_nat : ∀ y : Fin 256, clr8 255 (y.val : Int) = (y.val : Int) := by decide +kernel
theorem clr_blank {y : Int} (h0 : 0 ≤ y) (h1 : y < 256) : clr8 255 y = y := by
  obtain ⟨n, rfl⟩ := Int.eq_ofNat_of_zero_le h0
  exact clr_blank_nat ⟨n, by omega⟩
theorem byt_prog {f : ByteArray} {a : Nat} {t : ByteArray} (h : a + 4 ≤ f.size) (hb : ∀ j, a ≤ j → j < a + 4 → byt f j = 255) {j : Nat} (hj : j < f.size) :
    byt (tornB f a t 32) j = if a ≤ j ∧ j < a + 4 then byt t (j - a) else byt f j := by
  rw [byt_torn t 32 h hj]
  by_cases h1 : a ≤ j ∧ j < a + 4
  · rw [if_pos h1, if_pos h1, tear_all _ _ (by omega)]
    have hf : byt f (a + (j - a)) = 255 := hb _ (by omega) (by omega)
    have ht := byt_bd t (j - a)
    rw [hf]
    exact clr_blank ht.1 ht.2
  · rw [if_neg h1, if_neg h1]
theorem do_word {f : ByteArray} {a : Nat} {t : ByteArray} : doB f (false, (a : Int), t) = tornB f a t 32 := by simp [doB, cutB]
theorem do_erase {f : ByteArray} {s : Nat} {t : ByteArray} : doB f (true, (s : Int) * 96, t) = wornB f s 96 := by
  have : ((s : Int) * 96 / 96).toNat = s := by omega
  simp [doB, cutB, this]
/-- steps done, one behind the other. -/
def allB (f : ByteArray) (os : List OpV) : ByteArray := os.foldl doB f
theorem all_snoc (f : ByteArray) (os : List OpV) (o : OpV) : allB f (os ++ [o]) = doB (allB f os) o := by simp only [allB, List.foldl_append, List.foldl_cons, List.foldl_nil]
theorem all_app (f : ByteArray) (os ps : List OpV) : allB f (os ++ ps) = allB (allB f os) ps := by simp only [allB, List.foldl_append]
/-- a text written where it is blank. -/
theorem write_size {f : ByteArray} {a : Nat} {t : ByteArray} : ∀ k, a + 4 * k ≤ f.size → (allB f (wordsN (a : Int) t k)).size = f.size
  | 0, _ => rfl
  | k + 1, h => by
    have ih := write_size (f := f) (a := a) (t := t) k (by omega)
    rw [wordsN_succ, all_snoc]
    have e : wordV (a : Int) t k = (false, ((a + 4 * k : Nat) : Int), wordB t k) := by simp [wordV]
    rw [e, do_word, torn_size _ _ (by omega), ih]
theorem byt_write {f : ByteArray} {a : Nat} {t : ByteArray} : ∀ k, k ≤ (t.size + 3) / 4 → a + 4 * k ≤ f.size → (∀ j, a ≤ j → j < a + 4 * k → byt f j = 255) → ∀ j, j < f.size →
    byt (allB f (wordsN (a : Int) t k)) j = if a ≤ j ∧ j < a + 4 * k then byt (padB t) (j - a) else byt f j
  | 0, _, _, _, j, _ => by
    rw [if_neg (by omega)]
    rfl
  | k + 1, hk, h, hb, j, hj => by
    have hz := write_size (f := f) (a := a) (t := t) k (by omega)
    have ih := byt_write (f := f) (a := a) (t := t) k (by omega) (by omega) (fun j h1 h2 => hb j h1 (by omega))
    have e : wordV (a : Int) t k = (false, ((a + 4 * k : Nat) : Int), wordB t k) := by simp [wordV]
    rw [wordsN_succ, all_snoc, e, do_word, byt_prog (by omega) (fun i h1 h2 => ?_) (by omega)]
    · by_cases h1 : a + 4 * k ≤ j ∧ j < a + 4 * k + 4
      · rw [if_pos h1, if_pos (by omega), ← pad_word t k (by omega), byt_ex _ _ _ _ (by omega) (by rw [pad_size]; omega)]
        congr 1
        omega
      · rw [if_neg h1, ih j hj]
        by_cases h2 : a ≤ j ∧ j < a + 4 * k
        · rw [if_pos h2, if_pos (by omega)]
        · rw [if_neg h2, if_neg (by omega)]
    · rw [ih i (by omega), if_neg (by omega)]
      exact hb i (by omega) (by omega)
end Go.Proofs.YtccblleobcidfaaGreat.Fl
end
