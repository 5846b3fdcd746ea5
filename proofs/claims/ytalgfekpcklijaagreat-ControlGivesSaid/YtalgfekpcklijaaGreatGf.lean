/- Texts laid as one: Pmm Plp Plq Plv Plw Pmn. -/
import Derived.Test.YtalgfekpcklijaaGreatGp
import Derived.Test.YtalgfekpcklijaaGreatGb
/- Layer 8: a new record's steps may be done; what RecordOf gives: in plain Lean. -/
section
namespace Go.Proofs.YtalgfekpcklijaaGreat.Pl
open Go.RowKit Go.Proofs.YtalgfekpcklijaaGreat.Kt Go.Proofs.YtalgfekpcklijaaGreat.Lw Go.Proofs.YtalgfekpcklijaaGreat.St Go.Proofs.YtalgfekpcklijaaGreat.Nm Go.Proofs.YtalgfekpcklijaaGreat.By Go.Proofs.YtalgfekpcklijaaGreat.En Go.Proofs.YtalgfekpcklijaaGreat.Jr Go.Proofs.YtalgfekpcklijaaGreat.Im Go.Proofs.YtalgfekpcklijaaGreat.Sl Go.Proofs.YtalgfekpcklijaaGreat.Gr Go.Proofs.YtalgfekpcklijaaGreat.Ops Go.Proofs.YtalgfekpcklijaaGreat.Ch Go.Proofs.YtalgfekpcklijaaGreat.Fl
set_option linter.unusedVariables false
set_option linter.unusedSimpArgs false
attribute [local irreducible] gotB goodB Cr.crcB nQ nS nZ nM placeB wholeB
theorem word_size {t : ByteArray} {i : Nat} (h : i < (t.size + 3) / 4) : (wordB t i).size = 4 := by
  unfold wordB
  rw [ByteArray.size_append, full_size, ByteArray.size_extract]
  omega
/-- all may be done. -/
def MayL (os : List OpV) : Prop := ∀ o ∈ os, opMay o = true ∧ OpOk o
theorem MayL.app {a b : List OpV} (h : MayL a) (k : MayL b) : MayL (a ++ b) := by
  intro o ho
  rcases List.mem_append.1 ho with h1 | h1
  · exact h o h1
  · exact k o h1
theorem words_may {a : Int} {t : ByteArray} (a0 : 0 ≤ a) (a4 : a % 4 = 0) (ha : a + (t.size : Int) ≤ 768) : MayL (wordsL a t) := by
  intro o ho
  simp only [wordsL, wordsN, List.mem_map, List.mem_range] at ho
  obtain ⟨i, hi, rfl⟩ := ho
  have hz := word_size hi
  refine ⟨?_, ?_, ?_, ?_⟩
  · have h1 : rngB (a + 4 * (i : Int)) 0 764 = true := by simp [rngB]; omega
    have h2 : ((a + 4 * (i : Int)) % 4 == 0) = true := by simp; omega
    simp [opMay, wordV, bgnB, h1, h2, hz]
    exact a4
  · simp only [wordV]; omega
  · simp only [wordV]; omega
  · simp only [wordV]; omega
theorem spot_ok (f : ByteArray) : 0 ≤ spotN f ∧ spotN f % 4 = 0 ∧ spotN f ≤ 168 := by
  have hl := home_lt f
  unfold spotN
  cases ho : freeO f (homeN f) with
  | none => simp only; omega
  | some k =>
    have := freeO_lt ho
    simp only
    omega
theorem head_may (f : ByteArray) : MayL (headL f) := by
  have hl := home_lt f
  intro o ho
  unfold headL at ho
  cases hf : freeO f (homeN f) with
  | some k => rw [hf] at ho; simp at ho
  | none =>
    rw [hf] at ho
    simp at ho
    subst ho
    refine ⟨?_, ?_, ?_, ?_⟩
    · have h1 : ((⟨#[]⟩ : ByteArray).toList.isEmpty) = true := by decide +kernel
      simp [opMay, rngB, h1]
      omega
    · simp only; omega
    · simp only; omega
    · simp only; decide
theorem app_may (f : ByteArray) (q s z m : Int) : MayL (appL f q s z m) := by
  have h := spot_ok f
  have hz := whole_size q s z m
  exact (head_may f).app (words_may h.1 h.2.1 (by omega))
theorem MayL.take {os : List OpV} (h : MayL os) (i : Nat) : MayL (os.take i) := fun o ho => h o (List.mem_of_mem_take ho)
theorem app_len (f : ByteArray) (q s z m : Int) : 6 ≤ (appL f q s z m).length ∧ (appL f q s z m).length ≤ 7 := by
  have h : (headL f).length ≤ 1 := by
    unfold headL
    cases freeO f (homeN f) <;> simp
  unfold appL
  rw [List.length_append, words24_len (whole_size q s z m)]
  omega
theorem row_none {w : World} {A : Option Addr} : Row w A [] := ⟨Lies.nil, by simp, fun o ho => by simp at ho⟩
theorem rec_four (f : ByteArray) (s z : Int) : ∃ a b c d : Int, recV f s z = #[.int .i64 a, .int .i64 b, .int .i64 c, .int .i64 d] := by
  unfold recV
  split
  · exact ⟨_, _, _, _, rfl⟩
  · exact ⟨_, _, _, _, rfl⟩
theorem rec_e (f : ByteArray) (s z : Int) : recE f s z = 0 ∨ recE f s z = 801 ∨ recE f s z = 900 := by
  unfold recE
  split
  · split
    · exact .inr (.inl rfl)
    · exact .inl rfl
  · exact .inr (.inr rfl)
end Go.Proofs.YtalgfekpcklijaaGreat.Pl
end
/- Layer 8: what the steps of a new record leave, byte for byte: in plain Lean. -/
section
namespace Go.Proofs.YtalgfekpcklijaaGreat.Pl
open Go.RowKit Go.Proofs.YtalgfekpcklijaaGreat.Kt Go.Proofs.YtalgfekpcklijaaGreat.Lw Go.Proofs.YtalgfekpcklijaaGreat.St Go.Proofs.YtalgfekpcklijaaGreat.Nm Go.Proofs.YtalgfekpcklijaaGreat.By Go.Proofs.YtalgfekpcklijaaGreat.En Go.Proofs.YtalgfekpcklijaaGreat.Jr Go.Proofs.YtalgfekpcklijaaGreat.Im Go.Proofs.YtalgfekpcklijaaGreat.Sl Go.Proofs.YtalgfekpcklijaaGreat.Gr Go.Proofs.YtalgfekpcklijaaGreat.Ops Go.Proofs.YtalgfekpcklijaaGreat.Ch Go.Proofs.YtalgfekpcklijaaGreat.Fl
set_option linter.unusedVariables false
set_option linter.unusedSimpArgs false
attribute [local irreducible] gotB goodB Cr.crcB nQ nS nZ nM wholeB
end Go.Proofs.YtalgfekpcklijaaGreat.Pl
end
/- Layer 8: a new record's steps leave the active record and the slots as they were, and write the record: in plain Lean. -/
section
namespace Go.Proofs.YtalgfekpcklijaaGreat.Pl
open Go.RowKit Go.Proofs.YtalgfekpcklijaaGreat.Kt Go.Proofs.YtalgfekpcklijaaGreat.Lw Go.Proofs.YtalgfekpcklijaaGreat.St Go.Proofs.YtalgfekpcklijaaGreat.Nm Go.Proofs.YtalgfekpcklijaaGreat.By Go.Proofs.YtalgfekpcklijaaGreat.En Go.Proofs.YtalgfekpcklijaaGreat.Jr Go.Proofs.YtalgfekpcklijaaGreat.Im Go.Proofs.YtalgfekpcklijaaGreat.Sl Go.Proofs.YtalgfekpcklijaaGreat.Gr Go.Proofs.YtalgfekpcklijaaGreat.Ops Go.Proofs.YtalgfekpcklijaaGreat.Ch Go.Proofs.YtalgfekpcklijaaGreat.Fl
set_option linter.unusedVariables false
set_option linter.unusedSimpArgs false
theorem got_blank : gotB (fullB 24) = false := by decide +kernel
attribute [local irreducible] gotB goodB Cr.crcB nQ nS nZ nM wholeB
end Go.Proofs.YtalgfekpcklijaaGreat.Pl
end
/- Which places hold records, behind steps that were cut: in plain Lean. -/
section
namespace Go.Proofs.YtalgfekpcklijaaGreat.Pl
open Go.RowKit Go.Proofs.YtalgfekpcklijaaGreat.Kt Go.Proofs.YtalgfekpcklijaaGreat.Lw Go.Proofs.YtalgfekpcklijaaGreat.St Go.Proofs.YtalgfekpcklijaaGreat.Nm Go.Proofs.YtalgfekpcklijaaGreat.By Go.Proofs.YtalgfekpcklijaaGreat.En Go.Proofs.YtalgfekpcklijaaGreat.Jr Go.Proofs.YtalgfekpcklijaaGreat.Im Go.Proofs.YtalgfekpcklijaaGreat.Sl Go.Proofs.YtalgfekpcklijaaGreat.Gr Go.Proofs.YtalgfekpcklijaaGreat.Ops Go.Proofs.YtalgfekpcklijaaGreat.Ch Go.Proofs.YtalgfekpcklijaaGreat.Fl
set_option linter.unusedVariables false
set_option linter.unusedSimpArgs false
attribute [local irreducible] gotB goodB Cr.crcB nQ nS nZ nM wholeB
def orB (x y : Int) : Int := Go.bits .or .u8 x y
/-- the bytes of a place, and those twelve behind them, have all bits between them. -/
def tameF (f : ByteArray) : Prop := f.size = 768 ∧ ∀ i j, i < 8 → j < 12 → orB (byt f (24 * i + j)) (byt f (24 * i + j + 12)) = 255
theorem byt_place {f : ByteArray} {k j : Nat} (hf : f.size = 768) (hk : k < 8) (hj : j < 24) : byt (placeB f k) j = byt f (24 * k + j) := by
  unfold placeB
  exact Fl.byt_ex _ _ _ _ (by omega) (by omega)
end Go.Proofs.YtalgfekpcklijaaGreat.Pl
end
/- What a new record's steps, the last one cut, leave: the active record, or the new one: in plain Lean. -/
section
namespace Go.Proofs.YtalgfekpcklijaaGreat.Pl
open Go.RowKit Go.Proofs.YtalgfekpcklijaaGreat.Kt Go.Proofs.YtalgfekpcklijaaGreat.Lw Go.Proofs.YtalgfekpcklijaaGreat.St Go.Proofs.YtalgfekpcklijaaGreat.Nm Go.Proofs.YtalgfekpcklijaaGreat.By Go.Proofs.YtalgfekpcklijaaGreat.En Go.Proofs.YtalgfekpcklijaaGreat.Jr Go.Proofs.YtalgfekpcklijaaGreat.Im Go.Proofs.YtalgfekpcklijaaGreat.Sl Go.Proofs.YtalgfekpcklijaaGreat.Gr Go.Proofs.YtalgfekpcklijaaGreat.Ops Go.Proofs.YtalgfekpcklijaaGreat.Ch Go.Proofs.YtalgfekpcklijaaGreat.Fl
set_option linter.unusedVariables false
set_option linter.unusedSimpArgs false
theorem got_blank' : gotB (fullB 24) = false := got_blank
attribute [local irreducible] gotB goodB Cr.crcB nQ nS nZ nM wholeB
/-- what a record's steps leave of a flash. -/
structure Left (f y : ByteArray) (P : Nat) (q s z m : Int) : Prop where
  tame : tameF y
  slots : ∀ j, 192 ≤ j → j < 768 → byt y j = byt f j
  places : ∀ k, k < 8 → gotB (placeB y k) = true → placeB y k = placeB f k ∨ (k = P ∧ placeB y k = wholeB q s z m)
  active : activeO y = activeO f ∨ activeO y = some ⟨24 * (P : Int), q, s, z, m⟩
end Go.Proofs.YtalgfekpcklijaaGreat.Pl
end
/- Layer 8: records appended one behind the other: in plain Lean. -/
section
namespace Go.Proofs.YtalgfekpcklijaaGreat.Pl
open Go.RowKit Go.Proofs.YtalgfekpcklijaaGreat.Kt Go.Proofs.YtalgfekpcklijaaGreat.Lw Go.Proofs.YtalgfekpcklijaaGreat.St Go.Proofs.YtalgfekpcklijaaGreat.Nm Go.Proofs.YtalgfekpcklijaaGreat.By Go.Proofs.YtalgfekpcklijaaGreat.En Go.Proofs.YtalgfekpcklijaaGreat.Jr Go.Proofs.YtalgfekpcklijaaGreat.Im Go.Proofs.YtalgfekpcklijaaGreat.Sl Go.Proofs.YtalgfekpcklijaaGreat.Gr Go.Proofs.YtalgfekpcklijaaGreat.Ops Go.Proofs.YtalgfekpcklijaaGreat.Ch Go.Proofs.YtalgfekpcklijaaGreat.Fl
set_option linter.unusedVariables false
set_option linter.unusedSimpArgs false
attribute [local irreducible] gotB goodB Cr.crcB nQ nS nZ nM placeB wholeB
/-- what RecordOf gives. -/
theorem rec_yes {f : ByteArray} {s z : Int} (h : recE f s z = 0) : (f.size = 768 ∧ rngB s 0 1 = true ∧ rngB z 1 288 = true) ∧ recV f s z = #[.int .i64 (maxL (scanL f) + 1), .int .i64 s, .int .i64 z, .int .i64 (Cr.crcB (imgB f s z))] ∧
    recMay (maxL (scanL f) + 1) s z (Cr.crcB (imgB f s z)) = true ∧ goodB f s z (Cr.crcB (imgB f s z)) = true := by
  unfold recE at h
  by_cases hok : recOk f s z = true
  · rw [if_pos hok] at h
    have hmx : ¬ maxL (scanL f) = 1048576 := fun e => by rw [if_pos e] at h; omega
    have hp : f.size = 768 ∧ rngB s 0 1 = true ∧ rngB z 1 288 = true := by simpa [recOk] using hok
    have hb := Cr.crcB_bd (imgB f s z)
    have hm := max_all f
    refine ⟨hp, by simp only [recV, hok, hmx, not_false_eq_true, and_self, if_true], ?_, ?_⟩
    · simp only [recMay, hp.2.1, hp.2.2]
      simp [rngB]
      omega
    · unfold goodB
      simp
  · rw [if_neg hok] at h
    omega
theorem blank_place {k : Nat} (hk : k < 8) : placeB (fullB 768) k = fullB 24 := by
  have hz : (placeB (fullB 768) k).size = 24 := place_size (by rw [full_size]; omega)
  refine byt_ext (by rw [hz, full_size]) fun j hj => ?_
  rw [hz] at hj
  rw [byt_place (by rw [full_size]) hk hj, byt_full (by omega), byt_full hj]
theorem blank_scan : scanL (fullB 768) = [] := by
  cases h : scanL (fullB 768) with
  | nil => rfl
  | cons x l =>
    obtain ⟨k, hk, _, hg⟩ := scan_ok (f := fullB 768) (p := x) (by rw [h]; simp)
    rw [blank_place hk, got_blank'] at hg
    cases hg
end Go.Proofs.YtalgfekpcklijaaGreat.Pl
end
