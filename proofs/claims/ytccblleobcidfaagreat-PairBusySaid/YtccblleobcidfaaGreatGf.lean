/- Texts laid as one: Pmm Plp Plq Plv Plw Pmn. -/
import Derived.Test.YtccblleobcidfaaGreatGp
import Derived.Test.YtccblleobcidfaaGreatGb
/- Layer 8: a new record's steps may be done; what RecordOf gives: in plain Lean. -/
section
namespace Go.Proofs.YtccblleobcidfaaGreat.Pl
open Go.RowKit Go.Proofs.YtccblleobcidfaaGreat.Kt Go.Proofs.YtccblleobcidfaaGreat.Lw Go.Proofs.YtccblleobcidfaaGreat.St Go.Proofs.YtccblleobcidfaaGreat.Nm Go.Proofs.YtccblleobcidfaaGreat.By Go.Proofs.YtccblleobcidfaaGreat.En Go.Proofs.YtccblleobcidfaaGreat.Jr Go.Proofs.YtccblleobcidfaaGreat.Im Go.Proofs.YtccblleobcidfaaGreat.Sl Go.Proofs.YtccblleobcidfaaGreat.Gr Go.Proofs.YtccblleobcidfaaGreat.Ops Go.Proofs.YtccblleobcidfaaGreat.Ch Go.Proofs.YtccblleobcidfaaGreat.Fl
set_option linter.unusedVariables false
set_option linter.unusedSimpArgs false
attribute [local irreducible] gotB goodB Cr.crcB nQ nS nZ nM placeB wholeB
theorem word_size {t : ByteArray} {i : Nat} (h : i < (t.size + 3) / 4) : (wordB t i).size = 4 := by
  unfold wordB
  rw [ByteArray.size_append, full_size, ByteArray.size_extract]
  omega
/-- all may be done. -/
def MayL (os : List OpV) : Prop := ∀ o ∈ os, opMay o = true ∧ OpOk o
theorem MayL.app {a b : List OpV} (h : MayL a) (k : MayL b) : MayL (a ++ b) := by
  intro o ho
  rcases List.mem_append.1 ho with h1 | h1
  · exact h o h1
  · exact k o h1
theorem words_may {a : Int} {t : ByteArray} (a0 : 0 ≤ a) (a4 : a % 4 = 0) (ha : a + (t.size : Int) ≤ 768) : MayL (wordsL a t) := by
  intro o ho
  simp only [wordsL, wordsN, List.mem_map, List.mem_range] at ho
  obtain ⟨i, hi, rfl⟩ := ho
  have hz := word_size hi
  refine ⟨?_, ?_, ?_, ?_⟩
  · have h1 : rngB (a + 4 * (i : Int)) 0 764 = true := by simp [rngB]; omega
    have h2 : ((a + 4 * (i : Int)) % 4 == 0) = true := by simp; omega
    simp [opMay, wordV, bgnB, h1, h2, hz]
    exact a4
  · simp only [wordV]; omega
  · simp only [wordV]; omega
  · simp only [wordV]; omega
theorem spot_ok (f : ByteArray) : 0 ≤ spotN f ∧ spotN f % 4 = 0 ∧ spotN f ≤ 168 := by
  have hl := home_lt f
  unfold spotN
  cases ho : freeO f (homeN f) with
  | none => simp only; omega
  | some k =>
    have := freeO_lt ho
    simp only
    omega
theorem head_may (f : ByteArray) : MayL (headL f) := by
  have hl := home_lt f
  intro o ho
  unfold headL at ho
  cases hf : freeO f (homeN f) with
  | some k => rw [hf] at ho; simp at ho
  | none =>
    rw [hf] at ho
    simp at ho
    subst ho
    refine ⟨?_, ?_, ?_, ?_⟩
    · have h1 : ((⟨#[]⟩ : ByteArray).toList.isEmpty) = true := by decide +kernel
      simp [opMay, rngB, h1]
      omega
    · simp only; omega
    · simp only; omega
    · simp only; decide
theorem app_may (f : ByteArray) (q s z m : Int) : MayL (appL f q s z m) := by
  have h := spot_ok f
  have hz := whole_size q s z m
  exact (head_may f).app (words_may h.1 h.2.1 (by omega))
theorem all_next {f : ByteArray} {os : List OpV} {i : Nat} {o : OpV} (h : os[i]? = some o) : allB f (os.take (i + 1)) = doB (allB f (os.take i)) o := by
  rw [List.take_add_one, h]
  exact all_snoc _ _ _
theorem MayL.take {os : List OpV} (h : MayL os) (i : Nat) : MayL (os.take i) := fun o ho => h o (List.mem_of_mem_take ho)
theorem app_len (f : ByteArray) (q s z m : Int) : 6 ≤ (appL f q s z m).length ∧ (appL f q s z m).length ≤ 7 := by
  have h : (headL f).length ≤ 1 := by
    unfold headL
    cases freeO f (homeN f) <;> simp
  unfold appL
  rw [List.length_append, words24_len (whole_size q s z m)]
  omega
theorem rec_four (f : ByteArray) (s z : Int) : ∃ a b c d : Int, recV f s z = #[.int .i64 a, .int .i64 b, .int .i64 c, .int .i64 d] := by
  unfold recV
  split
  · exact ⟨_, _, _, _, rfl⟩
  · exact ⟨_, _, _, _, rfl⟩
theorem max_ge {l : List PlV} {p : PlV} : ∀ (a : Int), p ∈ l → p.q ≤ l.foldl (fun a p => max a p.q) a := by
  have mono : ∀ (l : List PlV) (a : Int), a ≤ l.foldl (fun a p => max a p.q) a := by
    intro l
    induction l with
    | nil => intro a; exact Int.le_refl _
    | cons x l ih => intro a; exact Int.le_trans (Int.le_max_left _ _) (ih _)
  induction l with
  | nil => intro a h; simp at h
  | cons x l ih =>
    intro a h
    rcases List.mem_cons.1 h with rfl | h
    · exact Int.le_trans (Int.le_max_right _ _) (mono _ _)
    · exact ih _ h
theorem rec_e (f : ByteArray) (s z : Int) : recE f s z = 0 ∨ recE f s z = 801 ∨ recE f s z = 900 := by
  unfold recE
  split
  · split
    · exact .inr (.inl rfl)
    · exact .inl rfl
  · exact .inr (.inr rfl)
theorem ract_of {y : ByteArray} {p : PlV} (hy : y.size = 768) (h : activeO y = some p) (W : World) : Calls Tryz.prog 48 #[.string y] W fun e w' => e = .returned (.tuple #[.agg #[.int .i64 p.at_, .int .i64 p.q, .int .i64 p.s, .int .i64 p.z, .int .i64 p.m], .int .i64 0]) ∧ Below W.heap.size W w' := by
  have k := ractive_c y W hy
  rwa [(act_some h).1, (act_some h).2] at k
end Go.Proofs.YtccblleobcidfaaGreat.Pl
end
/- Layer 8: what the steps of a new record leave, byte for byte: in plain Lean. -/
section
namespace Go.Proofs.YtccblleobcidfaaGreat.Pl
open Go.RowKit Go.Proofs.YtccblleobcidfaaGreat.Kt Go.Proofs.YtccblleobcidfaaGreat.Lw Go.Proofs.YtccblleobcidfaaGreat.St Go.Proofs.YtccblleobcidfaaGreat.Nm Go.Proofs.YtccblleobcidfaaGreat.By Go.Proofs.YtccblleobcidfaaGreat.En Go.Proofs.YtccblleobcidfaaGreat.Jr Go.Proofs.YtccblleobcidfaaGreat.Im Go.Proofs.YtccblleobcidfaaGreat.Sl Go.Proofs.YtccblleobcidfaaGreat.Gr Go.Proofs.YtccblleobcidfaaGreat.Ops Go.Proofs.YtccblleobcidfaaGreat.Ch Go.Proofs.YtccblleobcidfaaGreat.Fl
set_option linter.unusedVariables false
set_option linter.unusedSimpArgs false
attribute [local irreducible] gotB goodB Cr.crcB nQ nS nZ nM wholeB
theorem free_pl {f : ByteArray} : ∀ (n k j : Nat), freeFrom f k n = some j → placeB f j = fullB 24
  | 0, k, j, h => by simp [freeFrom] at h
  | n + 1, k, j, h => by
    unfold freeFrom at h
    by_cases hp : placeB f k = fullB 24
    · rw [if_pos hp] at h
      injection h with h
      rw [← h]
      exact hp
    · rw [if_neg hp] at h
      exact free_pl n (k + 1) j h
theorem free_byt {f : ByteArray} {s k : Nat} (hf : f.size = 768) (hs : s < 2) (h : freeO f s = some k) {j : Nat} (h1 : 24 * k ≤ j) (h2 : j < 24 * k + 24) : byt f j = 255 := by
  have hl := freeO_lt h
  have hp : placeB f k = fullB 24 := free_pl 4 (4 * s) k h
  have e : byt (placeB f k) (j - 24 * k) = byt f j := by
    unfold placeB
    rw [Fl.byt_ex _ _ _ _ (by omega) (by omega)]
    congr 1
    omega
  rw [← e, hp, byt_full (by omega)]
theorem pad24 {t : ByteArray} (h : t.size = 24) : padB t = t := by
  unfold padB
  rw [h]
  apply byt_ext
  · rw [ByteArray.size_append, full_size]
    omega
  · intro j hj
    rw [ByteArray.size_append, full_size] at hj
    rw [byt_left _ _ (by omega)]
end Go.Proofs.YtccblleobcidfaaGreat.Pl
end
/- Layer 8: a new record's steps leave the active record and the slots as they were, and write the record: in plain Lean. -/
section
namespace Go.Proofs.YtccblleobcidfaaGreat.Pl
open Go.RowKit Go.Proofs.YtccblleobcidfaaGreat.Kt Go.Proofs.YtccblleobcidfaaGreat.Lw Go.Proofs.YtccblleobcidfaaGreat.St Go.Proofs.YtccblleobcidfaaGreat.Nm Go.Proofs.YtccblleobcidfaaGreat.By Go.Proofs.YtccblleobcidfaaGreat.En Go.Proofs.YtccblleobcidfaaGreat.Jr Go.Proofs.YtccblleobcidfaaGreat.Im Go.Proofs.YtccblleobcidfaaGreat.Sl Go.Proofs.YtccblleobcidfaaGreat.Gr Go.Proofs.YtccblleobcidfaaGreat.Ops Go.Proofs.YtccblleobcidfaaGreat.Ch Go.Proofs.YtccblleobcidfaaGreat.Fl
set_option linter.unusedVariables false
set_option linter.unusedSimpArgs false
theorem got_blank : gotB (fullB 24) = false := by decide +kernel
attribute [local irreducible] gotB goodB Cr.crcB nQ nS nZ nM wholeB
theorem ext_same {a b : ByteArray} {i j : Nat} (ha : j ≤ a.size) (hb : j ≤ b.size) (h : ∀ k, i ≤ k → k < j → byt a k = byt b k) : a.extract i j = b.extract i j := by
  have sa : (a.extract i j).size = j - i := by rw [ByteArray.size_extract]; omega
  have sb : (b.extract i j).size = j - i := by rw [ByteArray.size_extract]; omega
  refine byt_ext (by rw [sa, sb]) fun k hk => ?_
  rw [sa] at hk
  rw [Fl.byt_ex _ _ _ _ (by omega) ha, Fl.byt_ex _ _ _ _ (by omega) hb]
  exact h _ (by omega) (by omega)
end Go.Proofs.YtccblleobcidfaaGreat.Pl
end
/- Which places hold records, behind steps that were cut: in plain Lean. -/
section
namespace Go.Proofs.YtccblleobcidfaaGreat.Pl
open Go.RowKit Go.Proofs.YtccblleobcidfaaGreat.Kt Go.Proofs.YtccblleobcidfaaGreat.Lw Go.Proofs.YtccblleobcidfaaGreat.St Go.Proofs.YtccblleobcidfaaGreat.Nm Go.Proofs.YtccblleobcidfaaGreat.By Go.Proofs.YtccblleobcidfaaGreat.En Go.Proofs.YtccblleobcidfaaGreat.Jr Go.Proofs.YtccblleobcidfaaGreat.Im Go.Proofs.YtccblleobcidfaaGreat.Sl Go.Proofs.YtccblleobcidfaaGreat.Gr Go.Proofs.YtccblleobcidfaaGreat.Ops Go.Proofs.YtccblleobcidfaaGreat.Ch Go.Proofs.YtccblleobcidfaaGreat.Fl
set_option linter.unusedVariables false
set_option linter.unusedSimpArgs false
attribute [local irreducible] gotB goodB Cr.crcB nQ nS nZ nM wholeB
theorem scanN_mem {f : ByteArray} {k : Nat} (hg : gotB (placeB f k) = true) : ∀ n, k < n → plOf f k ∈ scanN f n
  | 0, h => by omega
  | n + 1, h => by
    rw [scanN, List.mem_append]
    by_cases e : k = n
    · subst e
      right
      rw [hg]
      simp
    · exact .inl (scanN_mem hg n (by omega))
theorem scan_mem {f : ByteArray} {k : Nat} (hk : k < 8) (hg : gotB (placeB f k) = true) : plOf f k ∈ scanL f := scanN_mem hg 8 hk
theorem pl_eq {f y : ByteArray} {k : Nat} (h : placeB y k = placeB f k) : plOf y k = plOf f k := by simp only [plOf, h]
theorem act_keep {f y : ByteArray} (hi : ∀ s z : Int, 0 ≤ s → s ≤ 1 → z ≤ 288 → imgB y s z = imgB f s z) (hs : ∀ k, k < 8 → gotB (placeB y k) = true → placeB y k = placeB f k)
    (hp : ∀ k, k < 8 → activeO f = some (plOf f k) → placeB y k = placeB f k) : activeO y = activeO f := by
  have hgd : ∀ x ∈ scanL f, gdP y x = gdP f x := fun x hx => by
    obtain ⟨_, h2, h3, _⟩ := may_parts (scan_ok hx).may
    unfold gdP goodB
    rw [hi x.s x.z h2.1 h2.2 h3.2]
  have hsub : ∀ x ∈ scanL y, x ∈ scanL f := fun x hx => by
    obtain ⟨k, hk, rfl, hg⟩ := scan_ok hx
    have e := hs k hk hg
    rw [pl_eq e]
    exact scan_mem hk (by rw [← e]; exact hg)
  have hb := active_best f
  cases ho : activeO f with
  | none =>
    rw [ho] at hb
    exact active_none fun x hx => by rw [hgd x (hsub x hx)]; exact hb x (hsub x hx)
  | some p =>
    rw [ho] at hb
    obtain ⟨k, hk, rfl, hg⟩ := scan_ok hb.mem
    have e := hp k hk ho
    refine active_some ⟨?_, by rw [hgd _ hb.mem]; exact hb.good, fun x hx gx => hb.first x (hsub x hx) (by rw [← hgd x (hsub x hx)]; exact gx)⟩
    rw [← pl_eq e]
    exact scan_mem hk (by rw [e]; exact hg)
theorem got_whole {q s z m : Int} (h : recMay q s z m = true) : gotB (wholeB q s z m) = true ∧ nQ (wholeB q s z m) = q ∧ nS (wholeB q s z m) = s ∧ nZ (wholeB q s z m) = z ∧ nM (wholeB q s z m) = m := by
  obtain ⟨h1, h2, h3, h4⟩ := may_parts h
  have hz := whole_size q s z m
  have eq : nQ (wholeB q s z m) = q := by
    have : (wholeB q s z m).extract 0 4 = lowB q 4 := by
      apply ext_data
      simp [wholeB, halfB, lowB, lowL, strOfNums, List.range_succ, ByteArray.data_extract, List.extract]
    unfold nQ
    rw [this, numB_lowB]
    exact Int.emod_eq_of_lt (by omega) (by simp; omega)
  have es : nS (wholeB q s z m) = s := by
    have : (wholeB q s z m).extract 4 6 = lowB s 2 := by
      apply ext_data
      simp [wholeB, halfB, lowB, lowL, strOfNums, List.range_succ, ByteArray.data_extract, List.extract]
    unfold nS
    rw [this, numB_lowB]
    exact Int.emod_eq_of_lt (by omega) (by simp; omega)
  have ez : nZ (wholeB q s z m) = z := by
    have : (wholeB q s z m).extract 6 8 = lowB z 2 := by
      apply ext_data
      simp [wholeB, halfB, lowB, lowL, strOfNums, List.range_succ, ByteArray.data_extract, List.extract]
    unfold nZ
    rw [this, numB_lowB]
    exact Int.emod_eq_of_lt (by omega) (by simp; omega)
  have em : nM (wholeB q s z m) = m := by
    have : (wholeB q s z m).extract 8 12 = lowB m 4 := by
      apply ext_data
      simp [wholeB, halfB, lowB, lowL, strOfNums, List.range_succ, ByteArray.data_extract, List.extract]
    unfold nM
    rw [this, numB_lowB]
    exact Int.emod_eq_of_lt (by omega) (by simp; omega)
  refine ⟨?_, eq, es, ez, em⟩
  have hw := (whole_eq hz (nS (wholeB q s z m)) (by omega) (by omega)).1 (by rw [eq, es, ez, em])
  simp only [gotB, Bool.and_eq_true, decide_eq_true_eq]
  exact ⟨hz, hw.2, by rw [eq, es, ez, em]; exact h⟩
theorem act_new {y : ByteArray} {P : Nat} {q s z m : Int} (hP : P < 8) (hb : placeB y P = wholeB q s z m) (hm : recMay q s z m = true) (hg : goodB y s z m = true)
    (hq : ∀ k, k < 8 → k ≠ P → gotB (placeB y k) = true → nQ (placeB y k) < q) : activeO y = some ⟨24 * (P : Int), q, s, z, m⟩ := by
  obtain ⟨g0, g1, g2, g3, g4⟩ := got_whole hm
  have e : plOf y P = ⟨24 * (P : Int), q, s, z, m⟩ := by simp only [plOf, hb, g1, g2, g3, g4]
  rw [← e]
  refine active_some ⟨scan_mem hP (by rw [hb]; exact g0), by rw [e]; exact hg, fun x hx gx => ?_⟩
  obtain ⟨k, hk, rfl, hgk⟩ := scan_ok hx
  by_cases hkP : k = P
  · rw [hkP]
    exact leP.refl _
  · have h := hq k hk hkP hgk
    rw [e]
    unfold leP
    simp only [plOf]
    omega
/-- a byte upon 255, its first bits programmed. -/
def clrN : Nat → Int → Int → Int
  | 0, x, _ => x
  | k + 1, x, y => clrB (clrN k x y) y k
def parF (E : Nat → Int) (n j : Nat) : Int := clrN (min 8 (n - 8 * j)) 255 (E j)
theorem tear_clr {b w : Nat → Int} (hb : ∀ j, j < 4 → b j = 255) : ∀ n, n ≤ 32 → ∀ j, j < 4 → tearF b w n j = clrN (min 8 (n - 8 * j)) 255 (w j)
  | 0, _, j, hj => by
    rw [show min 8 (0 - 8 * j) = 0 by omega]
    exact hb j hj
  | n + 1, hn, j, hj => by
    have ih := tear_clr (w := w) hb n (by omega) j hj
    unfold tearF
    by_cases e : j = n / 8
    · rw [if_pos e, ih, show min 8 (n + 1 - 8 * j) = n % 8 + 1 by omega, show min 8 (n - 8 * j) = n % 8 by omega]
      rfl
    · rw [if_neg e, ih]
      congr 1
      omega
def orB (x y : Int) : Int := Go.bits .or .u8 x y
theorem clr_or_fin : ∀ k : Fin 9, ∀ x : Fin 256, orB (x.val : Int) (clrN k.val 255 (255 - (x.val : Int))) = 255 := by decide +kernel
theorem or_l_fin : ∀ x : Fin 256, orB 255 (x.val : Int) = 255 ∧ orB (x.val : Int) 255 = 255 := by decide +kernel
theorem or_0_fin : ∀ x : Fin 256, orB (x.val : Int) 0 = 255 → x.val = 255 := by decide +kernel
theorem clr_or {k : Nat} {x : Int} (hk : k ≤ 8) (h0 : 0 ≤ x) (h1 : x < 256) : orB x (clrN k 255 (255 - x)) = 255 := by
  obtain ⟨a, rfl⟩ := Int.eq_ofNat_of_zero_le h0
  exact clr_or_fin ⟨k, by omega⟩ ⟨a, by omega⟩
theorem or_l {x : Int} (h0 : 0 ≤ x) (h1 : x < 256) : orB 255 x = 255 := by
  obtain ⟨a, rfl⟩ := Int.eq_ofNat_of_zero_le h0
  exact (or_l_fin ⟨a, by omega⟩).1
theorem or_r {x : Int} (h0 : 0 ≤ x) (h1 : x < 256) : orB x 255 = 255 := by
  obtain ⟨a, rfl⟩ := Int.eq_ofNat_of_zero_le h0
  exact (or_l_fin ⟨a, by omega⟩).2
theorem or_0 {x : Int} (h0 : 0 ≤ x) (h1 : x < 256) (h : orB x 0 = 255) : x = 255 := by
  obtain ⟨a, rfl⟩ := Int.eq_ofNat_of_zero_le h0
  have := or_0_fin ⟨a, by omega⟩ h
  simp only at this
  omega
theorem clrN_8 {y : Int} (h0 : 0 ≤ y) (h1 : y < 256) : clrN 8 255 y = y := clr_blank h0 h1
theorem par_lo {E : Nat → Int} {n j : Nat} (h : 8 * j + 8 ≤ n) (hE : 0 ≤ E j ∧ E j < 256) : parF E n j = E j := by
  unfold parF
  rw [show min 8 (n - 8 * j) = 8 by omega]
  exact clrN_8 hE.1 hE.2
theorem par_hi {E : Nat → Int} {n j : Nat} (h : n ≤ 8 * j) : parF E n j = 255 := by
  unfold parF
  rw [show min 8 (n - 8 * j) = 0 by omega]
  rfl
theorem clrN_bd {y : Int} : ∀ k, 0 ≤ clrN k 255 y ∧ clrN k 255 y < 256
  | 0 => by simp [clrN]
  | k + 1 => by
    have h := clrN_bd (y := y) k
    exact clr_bd h.1 h.2
/-- the bytes of a place, and those twelve behind them, have all bits between them. -/
def tameF (f : ByteArray) : Prop := f.size = 768 ∧ ∀ i j, i < 8 → j < 12 → orB (byt f (24 * i + j)) (byt f (24 * i + j + 12)) = 255
theorem whole_byt {q s z m : Int} {j : Nat} (h : j < 12) : byt (wholeB q s z m) (j + 12) = 255 - byt (wholeB q s z m) j := by
  have hz := half_size q s z m
  unfold wholeB
  rw [byt_app, byt_app, hz, if_neg (by omega), if_pos (by omega), show j + 12 - 12 = j by omega]
  exact byt_comp _ (by omega)
theorem par_tame {f y : ByteArray} {P n : Nat} {q s z m : Int} (hf : tameF f) (hy : y.size = 768) (hP : P < 8)
    (hyb : ∀ j, j < 768 → byt y j = if 24 * P ≤ j ∧ j < 24 * P + 24 then parF (byt (wholeB q s z m)) n (j - 24 * P) else byt f j) : tameF y := by
  refine ⟨hy, fun i j hi hj => ?_⟩
  rw [hyb _ (by omega), hyb _ (by omega)]
  by_cases e : i = P
  · subst e
    rw [if_pos (by omega), if_pos (by omega), show 24 * i + j - 24 * i = j by omega, show 24 * i + j + 12 - 24 * i = j + 12 by omega]
    have hb := byt_bd (wholeB q s z m) j
    by_cases hn : n ≤ 8 * (j + 12)
    · rw [par_hi hn]
      unfold parF
      have := clrN_bd (y := byt (wholeB q s z m) j) (min 8 (n - 8 * j))
      exact or_r this.1 this.2
    · rw [par_lo (by omega) hb]
      unfold parF
      rw [whole_byt hj]
      exact clr_or (by omega) hb.1 hb.2
  · rw [if_neg (by omega), if_neg (by omega)]
    exact hf.2 i j hi hj
theorem got_comp {t : ByteArray} (h : gotB t = true) {j : Nat} (hj : j < 12) : byt t (j + 12) = 255 - byt t j := by
  simp only [gotB, Bool.and_eq_true, decide_eq_true_eq] at h
  obtain ⟨hz, hc, _⟩ := h
  have e1 : byt (t.extract 12 24) j = byt t (12 + j) := Fl.byt_ex _ _ _ _ (by omega) (by omega)
  have e0 : byt (t.extract 0 12) j = byt t j := by
    have := Fl.byt_ex t 0 12 j (by omega) (by omega)
    rwa [Nat.zero_add] at this
  have hs : (t.extract 0 12).size = 12 := ex_size t 0 12 hz (by omega)
  rw [show j + 12 = 12 + j by omega, ← e1, ← hc, byt_comp _ (by omega), e0]
theorem got_size {t : ByteArray} (h : gotB t = true) : t.size = 24 := by
  simp only [gotB, Bool.and_eq_true, decide_eq_true_eq] at h
  exact h.1
theorem got_zero {t : ByteArray} (h : gotB t = true) : ¬ ∀ j, j < 4 → byt t j = 0 := by
  intro h0
  have hz := got_size h
  simp only [gotB, Bool.and_eq_true, decide_eq_true_eq] at h
  have hq := (may_parts h.2.2).1.1
  have e : t.extract 0 4 = lowB 0 4 := by
    have hs := ex_size t 0 4 hz (by omega)
    refine byt_ext (by rw [hs, lowB_size]) fun j hj => ?_
    rw [hs] at hj
    have := Fl.byt_ex t 0 4 j (by omega) (by omega)
    rw [this, Nat.zero_add, h0 j (by omega)]
    rcases j with _ | _ | _ | _ | j
    · decide
    · decide
    · decide
    · decide
    · omega
  unfold nQ at hq
  rw [e, numB_lowB] at hq
  omega
theorem par_got {t : ByteArray} {n : Nat} {q s z m : Int} (hg : gotB t = true) (ht : ∀ j, j < 24 → byt t j = parF (byt (wholeB q s z m)) n j) : t = wholeB q s z m := by
  have hz := got_size hg
  have hb := fun j => byt_bd (wholeB q s z m) j
  by_cases hn : n ≤ 96
  · exact absurd (fun j (hj : j < 4) => by
      have h1 := got_comp hg (j := j) (by omega)
      rw [ht (j + 12) (by omega), par_hi (by omega)] at h1
      omega) (got_zero hg)
  · refine byt_ext (by rw [hz, whole_size]) fun j hj => ?_
    rw [hz] at hj
    by_cases h12 : j < 12
    · rw [ht j hj, par_lo (by omega) (hb j)]
    · obtain ⟨i, rfl⟩ : ∃ i, j = i + 12 := ⟨j - 12, by omega⟩
      rw [got_comp hg (by omega), ht i (by omega), par_lo (by omega) (hb i), whole_byt (by omega)]
theorem worn_tame {f : ByteArray} {u c : Nat} (hf : tameF f) (hu : u ≤ 7) (hc : c ≤ 96) : tameF (wornB f u c) := by
  have hz : (wornB f u c).size = 768 := (worn_size (by have := hf.1; omega)).trans hf.1
  refine ⟨hz, fun i j hi hj => ?_⟩
  have h1 := byt_bd f (24 * i + j)
  have h2 := byt_bd f (24 * i + j + 12)
  rw [byt_worn (by have := hf.1; omega) (by have := hf.1; omega), byt_worn (by have := hf.1; omega) (by have := hf.1; omega)]
  split
  · split
    · exact or_l (by omega) (by omega)
    · exact or_l h2.1 h2.2
  · split
    · exact or_r h1.1 h1.2
    · exact hf.2 i j hi hj
theorem byt_place {f : ByteArray} {k j : Nat} (hf : f.size = 768) (hk : k < 8) (hj : j < 24) : byt (placeB f k) j = byt f (24 * k + j) := by
  unfold placeB
  exact Fl.byt_ex _ _ _ _ (by omega) (by omega)
theorem place_ext {f y : ByteArray} {k : Nat} (hf : f.size = 768) (hy : y.size = 768) (hk : k < 8) (h : ∀ j, 24 * k ≤ j → j < 24 * k + 24 → byt y j = byt f j) : placeB y k = placeB f k :=
  ext_same (by omega) (by omega) h
theorem worn_got {f : ByteArray} {u c k : Nat} (hf : tameF f) (hu : u ≤ 7) (hc : c ≤ 96) (hk : k < 8) (hg : gotB (placeB (wornB f u c) k) = true) : placeB (wornB f u c) k = placeB f k := by
  have hz : (wornB f u c).size = 768 := (worn_size (by have := hf.1; omega)).trans hf.1
  have hw : ∀ j, j < 768 → byt (wornB f u c) j = if u * 96 ≤ j ∧ j < u * 96 + c then 255 else byt f j := fun j hj => byt_worn (by have := hf.1; omega) (by have := hf.1; omega)
  refine place_ext hf.1 hz hk fun j h1 h2 => ?_
  rw [hw j (by omega)]
  by_cases hr : u * 96 ≤ j ∧ j < u * 96 + c
  · rw [if_pos hr]
    have key : ∀ i, i < 12 → byt (wornB f u c) (24 * k + i + 12) = 255 - byt (wornB f u c) (24 * k + i) := fun i hi => by
      have h := got_comp hg hi
      rw [byt_place hz hk (by omega), byt_place hz hk (by omega)] at h
      exact h
    have h0 := key 0 (by omega)
    rw [hw _ (by omega), hw _ (by omega), if_pos (c := u * 96 ≤ 24 * k + 0 ∧ 24 * k + 0 < u * 96 + c) (by omega)] at h0
    have hn : ¬ (u * 96 ≤ 24 * k + 0 + 12 ∧ 24 * k + 0 + 12 < u * 96 + c) := by
      intro hh
      rw [if_pos hh] at h0
      omega
    obtain ⟨i, rfl⟩ : ∃ i, j = 24 * k + i := ⟨j - 24 * k, by omega⟩
    have hi : i < 12 := by omega
    have h3 := key i hi
    rw [hw _ (by omega), hw _ (by omega), if_pos (c := u * 96 ≤ 24 * k + i ∧ 24 * k + i < u * 96 + c) hr, if_neg (by omega)] at h3
    have h4 := hf.2 k i hk hi
    rw [h3] at h4
    have hb := byt_bd f (24 * k + i)
    exact (or_0 hb.1 hb.2 h4).symm
  · rw [if_neg hr]
end Go.Proofs.YtccblleobcidfaaGreat.Pl
end
/- What a new record's steps, the last one cut, leave: the active record, or the new one: in plain Lean. -/
section
namespace Go.Proofs.YtccblleobcidfaaGreat.Pl
open Go.RowKit Go.Proofs.YtccblleobcidfaaGreat.Kt Go.Proofs.YtccblleobcidfaaGreat.Lw Go.Proofs.YtccblleobcidfaaGreat.St Go.Proofs.YtccblleobcidfaaGreat.Nm Go.Proofs.YtccblleobcidfaaGreat.By Go.Proofs.YtccblleobcidfaaGreat.En Go.Proofs.YtccblleobcidfaaGreat.Jr Go.Proofs.YtccblleobcidfaaGreat.Im Go.Proofs.YtccblleobcidfaaGreat.Sl Go.Proofs.YtccblleobcidfaaGreat.Gr Go.Proofs.YtccblleobcidfaaGreat.Ops Go.Proofs.YtccblleobcidfaaGreat.Ch Go.Proofs.YtccblleobcidfaaGreat.Fl
set_option linter.unusedVariables false
set_option linter.unusedSimpArgs false
attribute [local irreducible] gotB goodB Cr.crcB nQ nS nZ nM wholeB
/-- a record's word, cut, upon blank bytes. -/
theorem cut_word {g E : ByteArray} {a i n : Nat} (hg : g.size = 768) (hE : E.size = 24) (ha : a + 24 ≤ 768) (hi : i < 6) (hb : ∀ j, a ≤ j → j < a + 24 → byt g j = 255) {j : Nat} (hj : j < 768) :
    byt (cutB (allB g (wordsN (a : Int) E i)) (wordV (a : Int) E i) n) j = if a ≤ j ∧ j < a + 24 then parF (byt E) (32 * i + min n 32) (j - a) else byt g j := by
  have hz := write_size (f := g) (a := a) (t := E) i (by omega)
  have hw := byt_write (f := g) (a := a) (t := E) i (by omega) (by omega) (fun j h1 h2 => hb j h1 (by omega))
  rw [pad24 hE] at hw
  have hEb := fun j => byt_bd E j
  have e : wordV (a : Int) E i = (false, ((a + 4 * i : Nat) : Int), wordB E i) := by simp [wordV]
  have ec : cutB (allB g (wordsN (a : Int) E i)) (wordV (a : Int) E i) n = tornB (allB g (wordsN (a : Int) E i)) (a + 4 * i) (wordB E i) (min n 32) := by
    rw [e]
    simp only [cutB, cond_false, Int.toNat_natCast]
  rw [ec, byt_torn _ _ (by omega) (by omega)]
  by_cases h1 : a + 4 * i ≤ j ∧ j < a + 4 * i + 4
  · rw [if_pos h1, if_pos (by omega), tear_clr (fun k hk => by rw [hw _ (by omega), if_neg (by omega)]; exact hb _ (by omega) (by omega)) _ (by omega) _ (by omega)]
    have ew : byt (wordB E i) (j - (a + 4 * i)) = byt E (j - a) := by
      rw [← pad_word E i (by omega), Fl.byt_ex _ _ _ _ (by omega) (by rw [pad_size]; omega), pad24 hE]
      congr 1
      omega
    unfold parF
    rw [ew]
    congr 1
    omega
  · rw [if_neg h1, hw j (by omega)]
    by_cases h2 : a ≤ j ∧ j < a + 24
    · rw [if_pos h2]
      by_cases h3 : j < a + 4 * i
      · rw [if_pos (by omega), par_lo (by omega) (hEb _)]
      · rw [if_neg (by omega), par_hi (by omega)]
        exact hb j h2.1 h2.2
    · rw [if_neg (by omega), if_neg h2]
theorem img_same {f y : ByteArray} (hf : f.size = 768) (hy : y.size = 768) (h : ∀ j, 192 ≤ j → j < 768 → byt y j = byt f j) (s z : Int) (h0 : 0 ≤ s) (h1 : s ≤ 1) (hz : z ≤ 288) : imgB y s z = imgB f s z := by
  obtain ⟨b1, b2⟩ := base_le h0 h1
  unfold imgB
  exact ext_same (by omega) (by omega) fun j k1 k2 => h j (by omega) (by omega)
theorem good_same {f y : ByteArray} {s z m : Int} (h : imgB y s z = imgB f s z) : goodB y s z m = goodB f s z m := by
  have e : ∀ x, goodB x s z m = (Cr.crcB (imgB x s z) == m) := fun x => by unfold goodB; rfl
  rw [e, e, h]
/-- what a record's steps leave of a flash. -/
structure Left (f y : ByteArray) (P : Nat) (q s z m : Int) : Prop where
  tame : tameF y
  slots : ∀ j, 192 ≤ j → j < 768 → byt y j = byt f j
  places : ∀ k, k < 8 → gotB (placeB y k) = true → placeB y k = placeB f k ∨ (k = P ∧ placeB y k = wholeB q s z m)
  active : activeO y = activeO f ∨ activeO y = some ⟨24 * (P : Int), q, s, z, m⟩
theorem cut_write {f : ByteArray} {P i n : Nat} {q s z m : Int} (hf : tameF f) (hP : P < 8) (hi : i < 6) (hb : ∀ j, 24 * P ≤ j → j < 24 * P + 24 → byt f j = 255) (hm : recMay q s z m = true)
    (hq : ∀ k, k < 8 → gotB (placeB f k) = true → nQ (placeB f k) < q) (hg : goodB f s z m = true) :
    Left f (cutB (allB f (wordsN ((24 * P : Nat) : Int) (wholeB q s z m) i)) (wordV ((24 * P : Nat) : Int) (wholeB q s z m) i) n) P q s z m ∧
    (i = 5 → 32 ≤ n → activeO (cutB (allB f (wordsN ((24 * P : Nat) : Int) (wholeB q s z m) i)) (wordV ((24 * P : Nat) : Int) (wholeB q s z m) i) n) = some ⟨24 * (P : Int), q, s, z, m⟩ ∧ placeB (cutB (allB f (wordsN ((24 * P : Nat) : Int) (wholeB q s z m) i)) (wordV ((24 * P : Nat) : Int) (wholeB q s z m) i) n) P = wholeB q s z m) := by
  have hws := whole_size q s z m
  have hyb := fun j (hj : j < 768) => cut_word (g := f) (E := wholeB q s z m) (a := 24 * P) (i := i) (n := n) hf.1 hws (by omega) hi hb hj
  have hys : (cutB (allB f (wordsN ((24 * P : Nat) : Int) (wholeB q s z m) i)) (wordV ((24 * P : Nat) : Int) (wholeB q s z m) i) n).size = 768 := by
    have hz := write_size (f := f) (a := 24 * P) (t := wholeB q s z m) i (by have := hf.1; omega)
    have e : wordV ((24 * P : Nat) : Int) (wholeB q s z m) i = (false, ((24 * P + 4 * i : Nat) : Int), wordB (wholeB q s z m) i) := by simp [wordV]
    have ec : cutB (allB f (wordsN ((24 * P : Nat) : Int) (wholeB q s z m) i)) (wordV ((24 * P : Nat) : Int) (wholeB q s z m) i) n = tornB (allB f (wordsN ((24 * P : Nat) : Int) (wholeB q s z m) i)) (24 * P + 4 * i) (wordB (wholeB q s z m) i) (min n 32) := by
      rw [e]
      simp only [cutB, cond_false, Int.toNat_natCast]
    rw [ec, torn_size _ _ (by have := hf.1; omega), hz]
    exact hf.1
  generalize cutB (allB f (wordsN ((24 * P : Nat) : Int) (wholeB q s z m) i)) (wordV ((24 * P : Nat) : Int) (wholeB q s z m) i) n = y at *
  have hne : ∀ k, k < 8 → k ≠ P → placeB y k = placeB f k := fun k hk hkP => place_ext hf.1 hys hk fun j h1 h2 => by rw [hyb j (by omega), if_neg (by omega)]
  have hsl : ∀ j, 192 ≤ j → j < 768 → byt y j = byt f j := fun j h1 h2 => by rw [hyb j h2, if_neg (by omega)]
  have himg := fun s z h0 h1 h2 => img_same hf.1 hys hsl s z h0 h1 h2
  obtain ⟨_, hms, hmz, _⟩ := may_parts hm
  have hgy : goodB y s z m = true := by rw [good_same (himg s z hms.1 hms.2 hmz.2)]; exact hg
  have hpb : gotB (placeB f P) = false := by
    have : placeB f P = fullB 24 := by
      have hz : (placeB f P).size = 24 := place_size (by have := hf.1; omega)
      refine byt_ext (by rw [hz, full_size]) fun j hj => ?_
      rw [hz] at hj
      rw [byt_place hf.1 hP hj, byt_full hj]
      exact hb _ (by omega) (by omega)
    rw [this]
    exact got_blank
  have hpl : gotB (placeB y P) = true → placeB y P = wholeB q s z m := fun h => par_got h (n := 32 * i + min n 32) fun j hj => by
    rw [byt_place hys hP hj, hyb _ (by omega), if_pos (by omega)]
    congr 1
    omega
  have hnew : placeB y P = wholeB q s z m → activeO y = some ⟨24 * (P : Int), q, s, z, m⟩ := fun h => act_new hP h hm hgy fun k hk hkP hgk => by
    have e := hne k hk hkP
    rw [e] at hgk ⊢
    exact hq k hk hgk
  refine ⟨⟨par_tame hf hys hP hyb, hsl, fun k hk hgk => ?_, ?_⟩, fun h5 h32 => ?_⟩
  · by_cases e : k = P
    · subst e
      exact .inr ⟨rfl, hpl hgk⟩
    · exact .inl (hne k hk e)
  · cases hgp : gotB (placeB y P)
    · left
      refine act_keep himg (fun k hk hgk => ?_) (fun k hk ha => ?_)
      · refine hne k hk fun e => ?_
        subst e
        rw [hgk] at hgp
        cases hgp
      · refine hne k hk fun e => ?_
        subst e
        obtain ⟨k', hk', e', hg'⟩ := act_ok ha
        have : k = k' := by simp only [plOf] at e'; injection e' with e' _; omega
        rw [← this, hpb] at hg'
        cases hg'
    · exact .inr (hnew (hpl hgp))
  · have : placeB y P = wholeB q s z m := by
      have hz : (placeB y P).size = 24 := place_size (by omega)
      refine byt_ext (by rw [hz, hws]) fun j hj => ?_
      rw [hz] at hj
      rw [byt_place hys hP hj, hyb _ (by omega), if_pos (by omega), show 24 * P + j - 24 * P = j by omega, par_lo (by omega) (byt_bd _ _)]
    exact ⟨hnew this, this⟩
/-- the number of a record is greater than all that stand. -/
def Over (f : ByteArray) (q : Int) : Prop := ∀ k, k < 8 → gotB (placeB f k) = true → nQ (placeB f k) < q
theorem erase_keep {f : ByteArray} {n : Nat} (hf : tameF f) (hn : n ≤ 96) :
    tameF (wornB f (1 - homeN f) n) ∧ (∀ j, 192 ≤ j → j < 768 → byt (wornB f (1 - homeN f) n) j = byt f j) ∧ (∀ k, k < 8 → gotB (placeB (wornB f (1 - homeN f) n) k) = true → placeB (wornB f (1 - homeN f) n) k = placeB f k) ∧ activeO (wornB f (1 - homeN f) n) = activeO f := by
  have hl := home_lt f
  obtain ⟨u, hu⟩ : ∃ u, u = 1 - homeN f := ⟨_, rfl⟩
  rw [← hu]
  have hz : (wornB f u n).size = 768 := (worn_size (by have := hf.1; omega)).trans hf.1
  have hw : ∀ j, j < 768 → byt (wornB f u n) j = if u * 96 ≤ j ∧ j < u * 96 + n then 255 else byt f j := fun j hj => byt_worn (by have := hf.1; omega) (by have := hf.1; omega)
  have hsl : ∀ j, 192 ≤ j → j < 768 → byt (wornB f u n) j = byt f j := fun j h1 h2 => by rw [hw j h2, if_neg (by omega)]
  refine ⟨worn_tame hf (by omega) hn, hsl, fun k hk hg => worn_got hf (by omega) hn hk hg, ?_⟩
  refine act_keep (fun s z h0 h1 h2 => img_same hf.1 hz hsl s z h0 h1 h2) (fun k hk hg => worn_got hf (by omega) hn hk hg) (fun k hk ha => ?_)
  have hh := home_some ha
  simp only [plOf] at hh
  refine place_ext hf.1 hz hk fun j h1 h2 => ?_
  rw [hw j (by omega), if_neg (by omega)]
/-- a step of a new record's, cut. -/
theorem cut_steps {f : ByteArray} {q s z m : Int} {i n : Nat} {o : OpV} (hf : tameF f) (hm : recMay q s z m = true) (hq : Over f q) (hg : goodB f s z m = true) (hn : n ≤ 96) (ho : (appL f q s z m)[i]? = some o) :
    ∃ P : Nat, P < 8 ∧ spotN f = 24 * (P : Int) ∧ Left f (cutB (allB f ((appL f q s z m).take i)) o n) P q s z m ∧
    (i + 1 = (appL f q s z m).length → n = 96 → activeO (cutB (allB f ((appL f q s z m).take i)) o n) = some ⟨24 * (P : Int), q, s, z, m⟩ ∧ placeB (cutB (allB f ((appL f q s z m).take i)) o n) P = wholeB q s z m) := by
  have hl := home_lt f
  have hws := whole_size q s z m
  have hw6 : ∀ a : Int, wordsL a (wholeB q s z m) = wordsN a (wholeB q s z m) 6 := fun a => by unfold wordsL; rw [hws]
  have htk : ∀ (a : Int) (j : Nat), j < 6 → (wordsN a (wholeB q s z m) 6).take j = wordsN a (wholeB q s z m) j := fun a j hj => by
    unfold wordsN
    rw [← List.map_take, List.take_range, show min j 6 = j by omega]
  have hat : ∀ (a : Int) (j : Nat) (o : OpV), (wordsN a (wholeB q s z m) 6)[j]? = some o → j < 6 ∧ o = wordV a (wholeB q s z m) j := fun a j o h => by
    have hj : j < 6 := by
      rcases Nat.lt_or_ge j 6 with h6 | h6
      · exact h6
      · rw [List.getElem?_eq_none (by rw [wordsN_len]; omega)] at h
        cases h
    refine ⟨hj, ?_⟩
    simp only [wordsN, List.getElem?_map, List.getElem?_range hj, Option.map_some, Option.some.injEq] at h
    exact h.symm
  cases hk : freeO f (homeN f) with
  | some k =>
    have hkl := freeO_lt hk
    have hsp : spotN f = 24 * (k : Int) := by simp only [spotN, hk]
    have ea : appL f q s z m = wordsN ((24 * k : Nat) : Int) (wholeB q s z m) 6 := by
      rw [← hw6]
      simp only [appL, headL, spotN, hk, List.nil_append]
      rfl
    rw [ea] at ho ⊢
    obtain ⟨hi, rfl⟩ := hat _ _ _ ho
    rw [htk _ _ hi]
    obtain ⟨h1, h2⟩ := cut_write (n := n) hf (P := k) (by omega) hi (fun j h1 h2 => free_byt hf.1 hl hk h1 h2) hm hq hg
    refine ⟨k, by omega, hsp, h1, fun h3 h4 => h2 (by rw [wordsN_len] at h3; omega) (by omega)⟩
  | none =>
    obtain ⟨u, hu⟩ : ∃ u : Nat, 1 - homeN f = u := ⟨_, rfl⟩
    have hui : (1 - (homeN f : Int)) = (u : Int) := by omega
    have hu1 : u ≤ 1 := by omega
    have hsp : spotN f = 24 * ((4 * u : Nat) : Int) := by simp only [spotN, hk]; omega
    have ea : appL f q s z m = (true, (u : Int) * 96, (⟨#[]⟩ : ByteArray)) :: wordsN ((24 * (4 * u) : Nat) : Int) (wholeB q s z m) 6 := by
      rw [← hw6]
      simp only [appL, headL, spotN, hk, hui, List.cons_append, List.nil_append]
      rw [show (u : Int) * 96 = ((24 * (4 * u) : Nat) : Int) by omega]
    have hek := fun n (hn : n ≤ 96) => erase_keep (f := f) (n := n) hf hn
    rw [hu] at hek
    rw [ea] at ho ⊢
    cases i with
    | zero =>
      simp only [List.getElem?_cons_zero, Option.some.injEq] at ho
      subst ho
      have e : cutB (allB f (List.take 0 ((true, (u : Int) * 96, (⟨#[]⟩ : ByteArray)) :: wordsN ((24 * (4 * u) : Nat) : Int) (wholeB q s z m) 6))) (true, (u : Int) * 96, ⟨#[]⟩) n = wornB f u n := by
        have : ((u : Int) * 96 / 96).toNat = u := by omega
        simp [cutB, this, allB]
      rw [e]
      obtain ⟨h1, h2, h3, h4⟩ := hek n hn
      refine ⟨4 * u, by omega, hsp, ⟨h1, h2, fun k hk hg => .inl (h3 k hk hg), .inl h4⟩, fun h5 => ?_⟩
      rw [List.length_cons, wordsN_len] at h5
      omega
    | succ i =>
      rw [List.getElem?_cons_succ] at ho
      obtain ⟨hi, rfl⟩ := hat _ _ _ ho
      rw [List.take_succ_cons, htk _ _ hi]
      have e : allB f ((true, (u : Int) * 96, (⟨#[]⟩ : ByteArray)) :: wordsN ((24 * (4 * u) : Nat) : Int) (wholeB q s z m) i) = allB (wornB f u 96) (wordsN ((24 * (4 * u) : Nat) : Int) (wholeB q s z m) i) := by
        have e2 : doB f (true, (u : Int) * 96, (⟨#[]⟩ : ByteArray)) = wornB f u 96 := do_erase
        show allB (doB f _) _ = _
        rw [e2]
      rw [e]
      obtain ⟨g1, g2, g3, g4⟩ := hek 96 (by omega)
      obtain ⟨_, hms, hmz, _⟩ := may_parts hm
      have hgg : goodB (wornB f u 96) s z m = true := by rw [good_same (img_same hf.1 g1.1 g2 s z hms.1 hms.2 hmz.2)]; exact hg
      obtain ⟨h1, h2⟩ := cut_write (n := n) g1 (P := 4 * u) (by omega) hi (fun j h1 h2 => by rw [byt_worn (by have := hf.1; omega) (by have := hf.1; omega), if_pos (by omega)]) hm
        (fun k hk hgk => by have e := g3 k hk hgk; rw [e] at hgk ⊢; exact hq k hk hgk) hgg
      refine ⟨4 * u, by omega, hsp, ⟨h1.tame, fun j k1 k2 => (h1.slots j k1 k2).trans (g2 j k1 k2), fun k hk hgk => ?_, ?_⟩, fun h3 h4 => h2 (by rw [List.length_cons, wordsN_len] at h3; omega) (by omega)⟩
      · rcases h1.places k hk hgk with h | h
        · left
          rw [h]
          exact g3 k hk (by rw [← h]; exact hgk)
        · exact .inr h
      · rcases h1.active with h | h
        · left
          rw [h, g4]
        · exact .inr h
end Go.Proofs.YtccblleobcidfaaGreat.Pl
end
/- Layer 8: records appended one behind the other: in plain Lean. -/
section
namespace Go.Proofs.YtccblleobcidfaaGreat.Pl
open Go.RowKit Go.Proofs.YtccblleobcidfaaGreat.Kt Go.Proofs.YtccblleobcidfaaGreat.Lw Go.Proofs.YtccblleobcidfaaGreat.St Go.Proofs.YtccblleobcidfaaGreat.Nm Go.Proofs.YtccblleobcidfaaGreat.By Go.Proofs.YtccblleobcidfaaGreat.En Go.Proofs.YtccblleobcidfaaGreat.Jr Go.Proofs.YtccblleobcidfaaGreat.Im Go.Proofs.YtccblleobcidfaaGreat.Sl Go.Proofs.YtccblleobcidfaaGreat.Gr Go.Proofs.YtccblleobcidfaaGreat.Ops Go.Proofs.YtccblleobcidfaaGreat.Ch Go.Proofs.YtccblleobcidfaaGreat.Fl
set_option linter.unusedVariables false
set_option linter.unusedSimpArgs false
attribute [local irreducible] gotB goodB Cr.crcB nQ nS nZ nM placeB wholeB
theorem over_max (f : ByteArray) : Over f (maxL (scanL f) + 1) := fun k hk hg => by
  have h := max_ge (p := plOf f k) 0 (scan_mem hk hg)
  have e : (plOf f k).q = nQ (placeB f k) := by simp only [plOf]
  rw [e] at h
  unfold maxL
  omega
/-- what RecordOf gives. -/
theorem rec_yes {f : ByteArray} {s z : Int} (h : recE f s z = 0) : (f.size = 768 ∧ rngB s 0 1 = true ∧ rngB z 1 288 = true) ∧ recV f s z = #[.int .i64 (maxL (scanL f) + 1), .int .i64 s, .int .i64 z, .int .i64 (Cr.crcB (imgB f s z))] ∧
    recMay (maxL (scanL f) + 1) s z (Cr.crcB (imgB f s z)) = true ∧ goodB f s z (Cr.crcB (imgB f s z)) = true := by
  unfold recE at h
  by_cases hok : recOk f s z = true
  · rw [if_pos hok] at h
    have hmx : ¬ maxL (scanL f) = 1048576 := fun e => by rw [if_pos e] at h; omega
    have hp : f.size = 768 ∧ rngB s 0 1 = true ∧ rngB z 1 288 = true := by simpa [recOk] using hok
    have hb := Cr.crcB_bd (imgB f s z)
    have hm := max_all f
    refine ⟨hp, by simp only [recV, hok, hmx, not_false_eq_true, and_self, if_true], ?_, ?_⟩
    · simp only [recMay, hp.2.1, hp.2.2]
      simp [rngB]
      omega
    · unfold goodB
      simp
  · rw [if_neg hok] at h
    omega
theorem fold_le {l : List PlV} {c : Int} : ∀ (a : Int), a ≤ c → (∀ p ∈ l, p.q ≤ c) → l.foldl (fun a p => max a p.q) a ≤ c := by
  induction l with
  | nil => intro a h _; exact h
  | cons x l ih =>
    intro a h hl
    exact ih _ (Int.max_le.2 ⟨h, hl x (by simp)⟩) (fun p hp => hl p (by simp [hp]))
theorem max_eq {l : List PlV} {c : Int} {p : PlV} (h0 : 0 ≤ c) (hl : ∀ p ∈ l, p.q ≤ c) (hp : p ∈ l) (hq : p.q = c) : maxL l = c := by
  have h1 := max_ge 0 hp
  have h2 := fold_le 0 h0 hl
  unfold maxL
  omega
theorem left_over {f y : ByteArray} {P : Nat} {q s z m : Int} (h : Left f y P q s z m) (hm : recMay q s z m = true) (hq : Over f q) (hP : P < 8) (hb : placeB y P = wholeB q s z m) : maxL (scanL y) = q := by
  obtain ⟨g0, g1, _⟩ := got_whole hm
  have hmq := (may_parts hm).1
  refine max_eq (p := plOf y P) (by omega) (fun x hx => ?_) (scan_mem hP (by rw [hb]; exact g0)) (by simp only [plOf, hb, g1])
  obtain ⟨k, hk, rfl, hg⟩ := scan_ok hx
  rcases h.places k hk hg with e | ⟨_, e⟩
  · have := hq k hk (by rw [← e]; exact hg)
    simp only [plOf, e]
    omega
  · simp only [plOf, e, g1]
    omega
end Go.Proofs.YtccblleobcidfaaGreat.Pl
end
