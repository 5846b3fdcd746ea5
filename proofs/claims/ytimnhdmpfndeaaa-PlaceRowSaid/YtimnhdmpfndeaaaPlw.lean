/- What a new record's steps, the last one cut, leave: the active record, or the new one: in plain Lean. -/
import Derived.Test.YtimnhdmpfndeaaaPlv
namespace Go.Proofs.Ytimnhdmpfndeaaa.Pl
open Go.RowKit Go.Proofs.Ytimnhdmpfndeaaa.Kt Go.Proofs.Ytimnhdmpfndeaaa.Lw Go.Proofs.Ytimnhdmpfndeaaa.St Go.Proofs.Ytimnhdmpfndeaaa.Nm Go.Proofs.Ytimnhdmpfndeaaa.By Go.Proofs.Ytimnhdmpfndeaaa.En Go.Proofs.Ytimnhdmpfndeaaa.Jr Go.Proofs.Ytimnhdmpfndeaaa.Im Go.Proofs.Ytimnhdmpfndeaaa.Sl Go.Proofs.Ytimnhdmpfndeaaa.Gr Go.Proofs.Ytimnhdmpfndeaaa.Ops Go.Proofs.Ytimnhdmpfndeaaa.Ch Go.Proofs.Ytimnhdmpfndeaaa.Fl
set_option linter.unusedVariables false
set_option linter.unusedSimpArgs false
theorem got_blank' : gotB (fullB 24) = false := got_blank
attribute [local irreducible] gotB goodB Cr.crcB nQ nS nZ nM wholeB
/-- a record's word, cut, upon blank bytes. -/
theorem cut_word {g E : ByteArray} {a i n : Nat} (hg : g.size = 768) (hE : E.size = 24) (ha : a + 24 ≤ 768) (hi : i < 6) (hb : ∀ j, a ≤ j → j < a + 24 → byt g j = 255) {j : Nat} (hj : j < 768) :
    byt (cutB (allB g (wordsN (a : Int) E i)) (wordV (a : Int) E i) n) j = if a ≤ j ∧ j < a + 24 then parF (byt E) (32 * i + min n 32) (j - a) else byt g j := by
  have hz := write_size (f := g) (a := a) (t := E) i (by omega)
  have hw := byt_write (f := g) (a := a) (t := E) i (by omega) (by omega) (fun j h1 h2 => hb j h1 (by omega))
  rw [pad24 hE] at hw
  have hEb := fun j => byt_bd E j
  have e : wordV (a : Int) E i = (false, ((a + 4 * i : Nat) : Int), wordB E i) := by simp [wordV]
  have ec : cutB (allB g (wordsN (a : Int) E i)) (wordV (a : Int) E i) n = tornB (allB g (wordsN (a : Int) E i)) (a + 4 * i) (wordB E i) (min n 32) := by
    rw [e]
    simp only [cutB, cond_false, Int.toNat_natCast]
  rw [ec, byt_torn _ _ (by omega) (by omega)]
  by_cases h1 : a + 4 * i ≤ j ∧ j < a + 4 * i + 4
  · rw [if_pos h1, if_pos (by omega), tear_clr (fun k hk => by rw [hw _ (by omega), if_neg (by omega)]; exact hb _ (by omega) (by omega)) _ (by omega) _ (by omega)]
    have ew : byt (wordB E i) (j - (a + 4 * i)) = byt E (j - a) := by
      rw [← pad_word E i (by omega), Fl.byt_ex _ _ _ _ (by omega) (by rw [pad_size]; omega), pad24 hE]
      congr 1
      omega
    unfold parF
    rw [ew]
    congr 1
    omega
  · rw [if_neg h1, hw j (by omega)]
    by_cases h2 : a ≤ j ∧ j < a + 24
    · rw [if_pos h2]
      by_cases h3 : j < a + 4 * i
      · rw [if_pos (by omega), par_lo (by omega) (hEb _)]
      · rw [if_neg (by omega), par_hi (by omega)]
        exact hb j h2.1 h2.2
    · rw [if_neg (by omega), if_neg h2]
theorem img_same {f y : ByteArray} (hf : f.size = 768) (hy : y.size = 768) (h : ∀ j, 192 ≤ j → j < 768 → byt y j = byt f j) (s z : Int) (h0 : 0 ≤ s) (h1 : s ≤ 1) (hz : z ≤ 288) : imgB y s z = imgB f s z := by
  obtain ⟨b1, b2⟩ := base_le h0 h1
  unfold imgB
  exact ext_same (by omega) (by omega) fun j k1 k2 => h j (by omega) (by omega)
theorem good_same {f y : ByteArray} {s z m : Int} (h : imgB y s z = imgB f s z) : goodB y s z m = goodB f s z m := by
  have e : ∀ x, goodB x s z m = (Cr.crcB (imgB x s z) == m) := fun x => by unfold goodB; rfl
  rw [e, e, h]
/-- what a record's steps leave of a flash. -/
structure Left (f y : ByteArray) (P : Nat) (q s z m : Int) : Prop where
  tame : tameF y
  slots : ∀ j, 192 ≤ j → j < 768 → byt y j = byt f j
  places : ∀ k, k < 8 → gotB (placeB y k) = true → placeB y k = placeB f k ∨ (k = P ∧ placeB y k = wholeB q s z m)
  active : activeO y = activeO f ∨ activeO y = some ⟨24 * (P : Int), q, s, z, m⟩
theorem cut_write {f : ByteArray} {P i n : Nat} {q s z m : Int} (hf : tameF f) (hP : P < 8) (hi : i < 6) (hb : ∀ j, 24 * P ≤ j → j < 24 * P + 24 → byt f j = 255) (hm : recMay q s z m = true)
    (hq : ∀ k, k < 8 → gotB (placeB f k) = true → nQ (placeB f k) < q) (hg : goodB f s z m = true) :
    Left f (cutB (allB f (wordsN ((24 * P : Nat) : Int) (wholeB q s z m) i)) (wordV ((24 * P : Nat) : Int) (wholeB q s z m) i) n) P q s z m ∧
    (i = 5 → 32 ≤ n → activeO (cutB (allB f (wordsN ((24 * P : Nat) : Int) (wholeB q s z m) i)) (wordV ((24 * P : Nat) : Int) (wholeB q s z m) i) n) = some ⟨24 * (P : Int), q, s, z, m⟩ ∧ placeB (cutB (allB f (wordsN ((24 * P : Nat) : Int) (wholeB q s z m) i)) (wordV ((24 * P : Nat) : Int) (wholeB q s z m) i) n) P = wholeB q s z m) := by
  have hws := whole_size q s z m
  have hyb := fun j (hj : j < 768) => cut_word (g := f) (E := wholeB q s z m) (a := 24 * P) (i := i) (n := n) hf.1 hws (by omega) hi hb hj
  have hys : (cutB (allB f (wordsN ((24 * P : Nat) : Int) (wholeB q s z m) i)) (wordV ((24 * P : Nat) : Int) (wholeB q s z m) i) n).size = 768 := by
    have hz := write_size (f := f) (a := 24 * P) (t := wholeB q s z m) i (by have := hf.1; omega)
    have e : wordV ((24 * P : Nat) : Int) (wholeB q s z m) i = (false, ((24 * P + 4 * i : Nat) : Int), wordB (wholeB q s z m) i) := by simp [wordV]
    have ec : cutB (allB f (wordsN ((24 * P : Nat) : Int) (wholeB q s z m) i)) (wordV ((24 * P : Nat) : Int) (wholeB q s z m) i) n = tornB (allB f (wordsN ((24 * P : Nat) : Int) (wholeB q s z m) i)) (24 * P + 4 * i) (wordB (wholeB q s z m) i) (min n 32) := by
      rw [e]
      simp only [cutB, cond_false, Int.toNat_natCast]
    rw [ec, torn_size _ _ (by have := hf.1; omega), hz]
    exact hf.1
  generalize cutB (allB f (wordsN ((24 * P : Nat) : Int) (wholeB q s z m) i)) (wordV ((24 * P : Nat) : Int) (wholeB q s z m) i) n = y at *
  have hne : ∀ k, k < 8 → k ≠ P → placeB y k = placeB f k := fun k hk hkP => place_ext hf.1 hys hk fun j h1 h2 => by rw [hyb j (by omega), if_neg (by omega)]
  have hsl : ∀ j, 192 ≤ j → j < 768 → byt y j = byt f j := fun j h1 h2 => by rw [hyb j h2, if_neg (by omega)]
  have himg := fun s z h0 h1 h2 => img_same hf.1 hys hsl s z h0 h1 h2
  obtain ⟨_, hms, hmz, _⟩ := may_parts hm
  have hgy : goodB y s z m = true := by rw [good_same (himg s z hms.1 hms.2 hmz.2)]; exact hg
  have hpb : gotB (placeB f P) = false := by
    have : placeB f P = fullB 24 := by
      have hz : (placeB f P).size = 24 := place_size (by have := hf.1; omega)
      refine byt_ext (by rw [hz, full_size]) fun j hj => ?_
      rw [hz] at hj
      rw [byt_place hf.1 hP hj, byt_full hj]
      exact hb _ (by omega) (by omega)
    rw [this]
    exact got_blank
  have hpl : gotB (placeB y P) = true → placeB y P = wholeB q s z m := fun h => par_got h (n := 32 * i + min n 32) fun j hj => by
    rw [byt_place hys hP hj, hyb _ (by omega), if_pos (by omega)]
    congr 1
    omega
  have hnew : placeB y P = wholeB q s z m → activeO y = some ⟨24 * (P : Int), q, s, z, m⟩ := fun h => act_new hP h hm hgy fun k hk hkP hgk => by
    have e := hne k hk hkP
    rw [e] at hgk ⊢
    exact hq k hk hgk
  refine ⟨⟨par_tame hf hys hP hyb, hsl, fun k hk hgk => ?_, ?_⟩, fun h5 h32 => ?_⟩
  · by_cases e : k = P
    · subst e
      exact .inr ⟨rfl, hpl hgk⟩
    · exact .inl (hne k hk e)
  · cases hgp : gotB (placeB y P)
    · left
      refine act_keep himg (fun k hk hgk => ?_) (fun k hk ha => ?_)
      · refine hne k hk fun e => ?_
        subst e
        rw [hgk] at hgp
        cases hgp
      · refine hne k hk fun e => ?_
        subst e
        obtain ⟨k', hk', e', hg'⟩ := act_ok ha
        have : k = k' := by simp only [plOf] at e'; injection e' with e' _; omega
        rw [← this, hpb] at hg'
        cases hg'
    · exact .inr (hnew (hpl hgp))
  · have : placeB y P = wholeB q s z m := by
      have hz : (placeB y P).size = 24 := place_size (by omega)
      refine byt_ext (by rw [hz, hws]) fun j hj => ?_
      rw [hz] at hj
      rw [byt_place hys hP hj, hyb _ (by omega), if_pos (by omega), show 24 * P + j - 24 * P = j by omega, par_lo (by omega) (byt_bd _ _)]
    exact ⟨hnew this, this⟩
/-- the number of a record is greater than all that stand. -/
def Over (f : ByteArray) (q : Int) : Prop := ∀ k, k < 8 → gotB (placeB f k) = true → nQ (placeB f k) < q
theorem erase_keep {f : ByteArray} {n : Nat} (hf : tameF f) (hn : n ≤ 96) :
    tameF (wornB f (1 - homeN f) n) ∧ (∀ j, 192 ≤ j → j < 768 → byt (wornB f (1 - homeN f) n) j = byt f j) ∧ (∀ k, k < 8 → gotB (placeB (wornB f (1 - homeN f) n) k) = true → placeB (wornB f (1 - homeN f) n) k = placeB f k) ∧ activeO (wornB f (1 - homeN f) n) = activeO f := by
  have hl := home_lt f
  obtain ⟨u, hu⟩ : ∃ u, u = 1 - homeN f := ⟨_, rfl⟩
  rw [← hu]
  have hz : (wornB f u n).size = 768 := (worn_size (by have := hf.1; omega)).trans hf.1
  have hw : ∀ j, j < 768 → byt (wornB f u n) j = if u * 96 ≤ j ∧ j < u * 96 + n then 255 else byt f j := fun j hj => byt_worn (by have := hf.1; omega) (by have := hf.1; omega)
  have hsl : ∀ j, 192 ≤ j → j < 768 → byt (wornB f u n) j = byt f j := fun j h1 h2 => by rw [hw j h2, if_neg (by omega)]
  refine ⟨worn_tame hf (by omega) hn, hsl, fun k hk hg => worn_got hf (by omega) hn hk hg, ?_⟩
  refine act_keep (fun s z h0 h1 h2 => img_same hf.1 hz hsl s z h0 h1 h2) (fun k hk hg => worn_got hf (by omega) hn hk hg) (fun k hk ha => ?_)
  have hh := home_some ha
  simp only [plOf] at hh
  refine place_ext hf.1 hz hk fun j h1 h2 => ?_
  rw [hw j (by omega), if_neg (by omega)]
/-- a step of a new record's, cut. -/
theorem cut_steps {f : ByteArray} {q s z m : Int} {i n : Nat} {o : OpV} (hf : tameF f) (hm : recMay q s z m = true) (hq : Over f q) (hg : goodB f s z m = true) (hn : n ≤ 96) (ho : (appL f q s z m)[i]? = some o) :
    ∃ P : Nat, P < 8 ∧ spotN f = 24 * (P : Int) ∧ Left f (cutB (allB f ((appL f q s z m).take i)) o n) P q s z m ∧
    (i + 1 = (appL f q s z m).length → n = 96 → activeO (cutB (allB f ((appL f q s z m).take i)) o n) = some ⟨24 * (P : Int), q, s, z, m⟩ ∧ placeB (cutB (allB f ((appL f q s z m).take i)) o n) P = wholeB q s z m) := by
  have hl := home_lt f
  have hws := whole_size q s z m
  have hw6 : ∀ a : Int, wordsL a (wholeB q s z m) = wordsN a (wholeB q s z m) 6 := fun a => by unfold wordsL; rw [hws]
  have htk : ∀ (a : Int) (j : Nat), j < 6 → (wordsN a (wholeB q s z m) 6).take j = wordsN a (wholeB q s z m) j := fun a j hj => by
    unfold wordsN
    rw [← List.map_take, List.take_range, show min j 6 = j by omega]
  have hat : ∀ (a : Int) (j : Nat) (o : OpV), (wordsN a (wholeB q s z m) 6)[j]? = some o → j < 6 ∧ o = wordV a (wholeB q s z m) j := fun a j o h => by
    have hj : j < 6 := by
      rcases Nat.lt_or_ge j 6 with h6 | h6
      · exact h6
      · rw [List.getElem?_eq_none (by rw [wordsN_len]; omega)] at h
        cases h
    refine ⟨hj, ?_⟩
    simp only [wordsN, List.getElem?_map, List.getElem?_range hj, Option.map_some, Option.some.injEq] at h
    exact h.symm
  cases hk : freeO f (homeN f) with
  | some k =>
    have hkl := freeO_lt hk
    have hsp : spotN f = 24 * (k : Int) := by simp only [spotN, hk]
    have ea : appL f q s z m = wordsN ((24 * k : Nat) : Int) (wholeB q s z m) 6 := by
      rw [← hw6]
      simp only [appL, headL, spotN, hk, List.nil_append]
      rfl
    rw [ea] at ho ⊢
    obtain ⟨hi, rfl⟩ := hat _ _ _ ho
    rw [htk _ _ hi]
    obtain ⟨h1, h2⟩ := cut_write (n := n) hf (P := k) (by omega) hi (fun j h1 h2 => free_byt hf.1 hl hk h1 h2) hm hq hg
    refine ⟨k, by omega, hsp, h1, fun h3 h4 => h2 (by rw [wordsN_len] at h3; omega) (by omega)⟩
  | none =>
    obtain ⟨u, hu⟩ : ∃ u : Nat, 1 - homeN f = u := ⟨_, rfl⟩
    have hui : (1 - (homeN f : Int)) = (u : Int) := by omega
    have hu1 : u ≤ 1 := by omega
    have hsp : spotN f = 24 * ((4 * u : Nat) : Int) := by simp only [spotN, hk]; omega
    have ea : appL f q s z m = (true, (u : Int) * 96, (⟨#[]⟩ : ByteArray)) :: wordsN ((24 * (4 * u) : Nat) : Int) (wholeB q s z m) 6 := by
      rw [← hw6]
      simp only [appL, headL, spotN, hk, hui, List.cons_append, List.nil_append]
      rw [show (u : Int) * 96 = ((24 * (4 * u) : Nat) : Int) by omega]
    have hek := fun n (hn : n ≤ 96) => erase_keep (f := f) (n := n) hf hn
    rw [hu] at hek
    rw [ea] at ho ⊢
    cases i with
    | zero =>
      simp only [List.getElem?_cons_zero, Option.some.injEq] at ho
      subst ho
      have e : cutB (allB f (List.take 0 ((true, (u : Int) * 96, (⟨#[]⟩ : ByteArray)) :: wordsN ((24 * (4 * u) : Nat) : Int) (wholeB q s z m) 6))) (true, (u : Int) * 96, ⟨#[]⟩) n = wornB f u n := by
        have : ((u : Int) * 96 / 96).toNat = u := by omega
        simp [cutB, this, allB]
      rw [e]
      obtain ⟨h1, h2, h3, h4⟩ := hek n hn
      refine ⟨4 * u, by omega, hsp, ⟨h1, h2, fun k hk hg => .inl (h3 k hk hg), .inl h4⟩, fun h5 => ?_⟩
      rw [List.length_cons, wordsN_len] at h5
      omega
    | succ i =>
      rw [List.getElem?_cons_succ] at ho
      obtain ⟨hi, rfl⟩ := hat _ _ _ ho
      rw [List.take_succ_cons, htk _ _ hi]
      have e : allB f ((true, (u : Int) * 96, (⟨#[]⟩ : ByteArray)) :: wordsN ((24 * (4 * u) : Nat) : Int) (wholeB q s z m) i) = allB (wornB f u 96) (wordsN ((24 * (4 * u) : Nat) : Int) (wholeB q s z m) i) := by
        have e2 : doB f (true, (u : Int) * 96, (⟨#[]⟩ : ByteArray)) = wornB f u 96 := do_erase
        show allB (doB f _) _ = _
        rw [e2]
      rw [e]
      obtain ⟨g1, g2, g3, g4⟩ := hek 96 (by omega)
      obtain ⟨_, hms, hmz, _⟩ := may_parts hm
      have hgg : goodB (wornB f u 96) s z m = true := by rw [good_same (img_same hf.1 g1.1 g2 s z hms.1 hms.2 hmz.2)]; exact hg
      obtain ⟨h1, h2⟩ := cut_write (n := n) g1 (P := 4 * u) (by omega) hi (fun j h1 h2 => by rw [byt_worn (by have := hf.1; omega) (by have := hf.1; omega), if_pos (by omega)]) hm
        (fun k hk hgk => by have e := g3 k hk hgk; rw [e] at hgk ⊢; exact hq k hk hgk) hgg
      refine ⟨4 * u, by omega, hsp, ⟨h1.tame, fun j k1 k2 => (h1.slots j k1 k2).trans (g2 j k1 k2), fun k hk hgk => ?_, ?_⟩, fun h3 h4 => h2 (by rw [List.length_cons, wordsN_len] at h3; omega) (by omega)⟩
      · rcases h1.places k hk hgk with h | h
        · left
          rw [h]
          exact g3 k hk (by rw [← h]; exact hgk)
        · exact .inr h
      · rcases h1.active with h | h
        · left
          rw [h, g4]
        · exact .inr h
end Go.Proofs.Ytimnhdmpfndeaaa.Pl
