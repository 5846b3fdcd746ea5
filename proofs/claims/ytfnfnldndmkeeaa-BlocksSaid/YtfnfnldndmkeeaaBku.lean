/- Layer 10: Join. -/
import Derived.Test.YtfnfnldndmkeeaaBkt
namespace Go.Proofs.Ytfnfnldndmkeeaa.Bk
open Go.RowKit Go.Proofs.Ytfnfnldndmkeeaa.Kt Go.Proofs.Ytfnfnldndmkeeaa.Lw Go.Proofs.Ytfnfnldndmkeeaa.St Go.Proofs.Ytfnfnldndmkeeaa.Nm Go.Proofs.Ytfnfnldndmkeeaa.Sl
set_option linter.unusedVariables false
set_option linter.unusedSimpArgs false
/-- the texts put together. -/
def catL (xs : List ByteArray) : ByteArray := ⟨(xs.flatMap (·.data.toList)).toArray⟩
theorem cat_join (xs : List ByteArray) : Lib.join (xs.map (·.data.toList)) [] = xs.flatMap (·.data.toList) := by
  cases xs with
  | nil => rfl
  | cons x r =>
    rw [List.map_cons, Lib.join_cons]
    simp [Lib.joinTail, List.flatMap, Function.comp_def]
theorem cat_len (xs : List ByteArray) : (catL xs).size = (xs.map (·.size)).sum := by
  show (xs.flatMap (·.data.toList)).toArray.size = _
  simp [List.length_flatMap]
theorem bigs_sum : ∀ {xs : List ByteArray}, bigs xs = false → (xs.map (·.size)).sum ≤ 32 * xs.length
  | [], _ => by simp
  | x :: xs, h => by
    simp [bigs] at h
    have := bigs_sum (xs := xs) (by simp [bigs]; exact h.2)
    simp
    omega
theorem cat_le {xs : List ByteArray} (h : bigs xs = false) (h9 : xs.length ≤ 9) : (catL xs).size ≤ 288 := by
  rw [cat_len]
  have := bigs_sum h
  omega
theorem sjoin_c (A : Option Addr) (c n : Nat) (xs : List ByteArray) (w : World) (hl : Txt w A xs) (hn : xs.length = n) (hcap : n ≤ c) (h9 : n ≤ 9) (hb : bigs xs = false) :
    Calls Try.prog 68 #[.slice A n c, .string ⟨#[]⟩] w fun e w' => e = .returned (.string (catL xs)) ∧ Below w.heap.size w w' := by
  by_cases h0 : xs = []
  · subst h0
    subst hn
    exact (Try.strings_Join_none A c ⟨#[]⟩ w).mono fun e w' h => ⟨h.1, by rw [h.2]; exact Below.refl _ _⟩
  · obtain ⟨b, off, rfl, hlt, hc⟩ := hl.1.some_ h0
    subst hn
    have hs := cat_le hb h9
    refine (Try.strings_Join b off c xs ⟨#[]⟩ w (fun j x hx => ?_) hlt hl.2.1 hcap ?_).mono fun e w' h => ⟨?_, h.2⟩
    · have := hc j x hx 0 _ rfl
      rwa [Nat.mul_one, Nat.add_zero] at this
    · rw [cat_join]
      have e : (catL xs).size = (xs.flatMap (·.data.toList)).length := by show (xs.flatMap (·.data.toList)).toArray.size = _; simp
      omega
    · rw [h.1]
      show Ending.returned (.string ⟨(Lib.join (xs.map (·.data.toList)) []).toArray⟩) = _
      rw [cat_join]
      rfl
theorem getD_cell {w : World} {b off : Nat} {xs : List ByteArray} (hc : ∀ j x, xs[j]? = some x → ∀ i v, (encS x)[i]? = some v → w.cell? ⟨b, off + j * 1 + i, none⟩ = some v) : ∀ j, j < xs.length → w.cell? ⟨b, off + j, none⟩ = some (.string (xs.getD j ByteArray.empty)) := by
  intro j hj
  have hx : xs[j]? = some xs[j] := List.getElem?_eq_getElem hj
  have := hc j _ hx 0 _ rfl
  rw [Nat.mul_one, Nat.add_zero] at this
  rw [this, List.getD_eq_getElem?_getD, hx]
  rfl
theorem equalT_c (A B : Option Addr) (c d n m : Nat) (xs ys : List ByteArray) (w : World) (hl : Txt w A xs) (hr : Txt w B ys) (hn : xs.length = n) (hm : ys.length = m) :
    Calls Try.prog 69 #[.slice A n c, .slice B m d] w fun e w' => e = .returned (.bool (decide (xs = ys))) ∧ Below w.heap.size w w' := by
  have b1 := hl.2.1
  have b2 := hr.2.1
  by_cases h0 : xs = []
  · subst h0
    subst hn
    refine (Try.slices_Equal_string_empty A B c m d w (by omega)).mono fun e w' h => ⟨?_, by rw [h.2]; exact Below.refl _ _⟩
    rw [h.1]
    refine retB ?_
    rw [decide_eq_decide]
    constructor
    · intro h; exact (List.eq_nil_of_length_eq_zero (by omega)).symm
    · intro h; rw [← hm, ← h]; rfl
  · by_cases h1 : ys = []
    · subst h1
      have hz : n ≠ m := by
        have : xs.length ≠ 0 := fun h => h0 (List.eq_nil_of_length_eq_zero h)
        simp at hm
        omega
      refine (Try.slices_Equal_string_lens A B n c m d w hz).mono fun e w' h => ⟨?_, by rw [h.2]; exact Below.refl _ _⟩
      rw [h.1]
      simp [h0]
    · obtain ⟨b, off, rfl, hlt, hc⟩ := hl.1.some_ h0
      obtain ⟨b', off', rfl, hlt', hc'⟩ := hr.1.some_ h1
      refine (Try.slices_Equal_string b off n c b' off' m d xs ys w (by omega) (by omega) (by omega) (by omega) (getD_cell hc) (getD_cell hc')).mono fun e w' h => ⟨?_, ?_⟩
      · rw [h.1, ← hn, ← hm, List.take_length, List.take_length]
      · obtain ⟨q, hq⟩ := h.2
        rw [hq]
        exact bl_drewN (Below.refl _ _) q
theorem many_c (w : World) : Calls Try.prog 65 #[.int .i64 288] w fun e w' => e = .returned (.int .i64 9) ∧ w = w' := by
  go_enter Try.func65, Try.ntmps65
  go_wp2
  go_ret
  exact ⟨rfl, rfl⟩
def joinOk (xs : List ByteArray) : Bool := decide (xs.length ≤ 9) && (!bigs xs && (rngB ((catL xs).size : Int) 1 288 && decide (splitL (catL xs) = xs)))
def joinV (xs : List ByteArray) : Value := bif joinOk xs then .tuple #[.string (catL xs), .int .i64 0] else .tuple #[.string ⟨#[]⟩, .int .i64 1000]
theorem own_txt {w : World} {base : Nat} {A : Option Addr} {n c : Nat} {xs : List ByteArray} (h : w.ownsRow base 9 1 (.slice A n c) n (xs.map Value.string)) (hn : xs.length = n) (hb : n ≤ 140737488355328) (hs : ∀ s ∈ xs, s.size ≤ 9223372036854775807) : Txt w A xs :=
  ⟨lies_own encS_len (by rw [encS_map]; exact h) hn, by omega, hs⟩
theorem chunk_le (s : ByteArray) (k : Nat) : (chunkB s k).size ≤ 32 := by
  unfold chunkB
  rw [ByteArray.size_extract]
  omega
theorem split_le (s : ByteArray) : ∀ x ∈ splitL s, x.size ≤ 9223372036854775807 := by
  intro x hx
  simp only [splitL, chunks, List.mem_map] at hx
  obtain ⟨k, _, rfl⟩ := hx
  have := chunk_le s k
  omega
set_option maxHeartbeats 3200000 in
theorem join_c (A : Option Addr) (c n : Nat) (xs : List ByteArray) (w : World) (hl : Txt w A xs) (hn : xs.length = n) (hcap : n ≤ c) :
    Calls Try.prog 35 #[.slice A n c] w fun e w' => e = .returned (joinV xs) ∧ Below w.heap.size w w' := by
  have hb : n ≤ 140737488355328 := by rw [← hn]; exact hl.2.1
  by_cases h9 : n ≤ 9
  · have hz : ¬ (9 : Int) < (n : Int) := by omega
    have hB := Lib.hid (fun W => bigs_c A c n xs W)
    rcases Bool.eq_false_or_eq_true (bigs xs) with hg | hg
    · have hv : joinV xs = .tuple #[.string ⟨#[]⟩, .int .i64 1000] := by simp [joinV, joinOk, hg]
      rw [hv]
      rw [hg] at hB
      have hl' := Lib.hid hl
      clear hl
      go_enter Try.func35, Try.ntmps35
      go_wp2_with (first | (go_at_call 65; with_reducible refine (many_c _).mono ?_; rintro e w' ⟨rfl, rfl⟩) | (go_at_call 66; with_reducible refine (hB.out _ hl'.out hn).mono ?_; rintro e w' ⟨rfl, hb1⟩) | fail)
      go_ret2
      exact ⟨rfl, hb1⟩
    · rw [hg] at hB
      have hl' := Lib.hid hl
      have hJ := Lib.hid (fun W h => sjoin_c A c n xs W h hn hcap h9 hg)
      have hsz := cat_le hg (by omega)
      clear hl
      rcases Bool.eq_false_or_eq_true (rngB ((catL xs).size : Int) 1 288) with hr | hr
      · by_cases he : splitL (catL xs) = xs
        · have hv : joinV xs = .tuple #[.string (catL xs), .int .i64 0] := by simp [joinV, joinOk, hg, hr, he, hn, h9]
          rw [hv]
          have hE := Lib.hid (fun (W : World) B d h1 h2 => equalT_c B A d c (manyN (catL xs)) n (splitL (catL xs)) xs W h1 h2 (split_len _) hn)
          rw [decide_eq_true he] at hE
          have he' := Lib.hid he
          clear he
          go_enter Try.func35, Try.ntmps35
          go_wp2_with (first | (go_at_call 65; with_reducible refine (many_c _).mono ?_; rintro e w' ⟨rfl, rfl⟩) | (go_at_call 66; with_reducible refine (hB.out _ hl'.out hn).mono ?_; rintro e w1 ⟨rfl, hb1⟩) | (go_at_call 68; with_reducible refine (hJ.out _ (hl'.out.below hb1)).mono ?_; rintro e w2 ⟨rfl, hb2⟩; have HB := bl_step hb1 hb2) | (go_at_call 33; (with_reducible refine (split_yes _ _ hr).mono ?_); rintro e w3 ⟨B, d, rfl, hown, hb3⟩; have HC := bl_step HB hb3) | (go_at_call 69; (with_reducible refine (hE.out _ _ _ (own_txt hown (split_len _) (by unfold manyN; omega) (split_le _)) (hl'.out.below HC)).mono ?_); rintro e w4 ⟨rfl, hb4⟩; have HD := bl_step HC hb4) | fail)
          go_ret2
          exact ⟨rfl, HD⟩
        · have hv : joinV xs = .tuple #[.string ⟨#[]⟩, .int .i64 1000] := by simp [joinV, joinOk, he]
          rw [hv]
          have hE := Lib.hid (fun (W : World) B d h1 h2 => equalT_c B A d c (manyN (catL xs)) n (splitL (catL xs)) xs W h1 h2 (split_len _) hn)
          rw [decide_eq_false he] at hE
          have he' := Lib.hid he
          clear he
          go_enter Try.func35, Try.ntmps35
          go_wp2_with (first | (go_at_call 65; with_reducible refine (many_c _).mono ?_; rintro e w' ⟨rfl, rfl⟩) | (go_at_call 66; with_reducible refine (hB.out _ hl'.out hn).mono ?_; rintro e w1 ⟨rfl, hb1⟩) | (go_at_call 68; with_reducible refine (hJ.out _ (hl'.out.below hb1)).mono ?_; rintro e w2 ⟨rfl, hb2⟩; have HB := bl_step hb1 hb2) | (go_at_call 33; (with_reducible refine (split_yes _ _ hr).mono ?_); rintro e w3 ⟨B, d, rfl, hown, hb3⟩; have HC := bl_step HB hb3) | (go_at_call 69; (with_reducible refine (hE.out _ _ _ (own_txt hown (split_len _) (by unfold manyN; omega) (split_le _)) (hl'.out.below HC)).mono ?_); rintro e w4 ⟨rfl, hb4⟩; have HD := bl_step HC hb4) | fail)
          go_ret2
          exact ⟨rfl, HD⟩
      · have hv : joinV xs = .tuple #[.string ⟨#[]⟩, .int .i64 1000] := by simp [joinV, joinOk, hr]
        rw [hv]
        go_enter Try.func35, Try.ntmps35
        go_wp2_with (first | (go_at_call 65; with_reducible refine (many_c _).mono ?_; rintro e w' ⟨rfl, rfl⟩) | (go_at_call 66; with_reducible refine (hB.out _ hl'.out hn).mono ?_; rintro e w1 ⟨rfl, hb1⟩) | (go_at_call 68; with_reducible refine (hJ.out _ (hl'.out.below hb1)).mono ?_; rintro e w2 ⟨rfl, hb2⟩; have HB := bl_step hb1 hb2) | (go_at_call 33; with_reducible refine (split_no _ _ (by omega) hr).mono ?_; rintro e w3 ⟨rfl, rfl⟩) | fail)
        go_ret2
        exact ⟨rfl, HB⟩
  · have hz : (9 : Int) < (n : Int) := by omega
    have hv : joinV xs = .tuple #[.string ⟨#[]⟩, .int .i64 1000] := by simp [joinV, joinOk, hn, h9]
    rw [hv]
    clear hl
    go_enter Try.func35, Try.ntmps35
    go_wp2_with (first | (go_at_call 65; with_reducible refine (many_c _).mono ?_; rintro e w' ⟨rfl, rfl⟩) | fail)
    go_ret2
    exact ⟨rfl, Below.refl _ _⟩
end Go.Proofs.Ytfnfnldndmkeeaa.Bk
