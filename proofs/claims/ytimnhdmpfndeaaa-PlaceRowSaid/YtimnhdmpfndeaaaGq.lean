/- Texts laid as one: Plp Plq Plr Pls. -/
import Derived.Test.YtimnhdmpfndeaaaGh
/- Layer 8: what the steps of a new record leave, byte for byte: in plain Lean. -/
section
namespace Go.Proofs.Ytimnhdmpfndeaaa.Pl
open Go.RowKit Go.Proofs.Ytimnhdmpfndeaaa.Kt Go.Proofs.Ytimnhdmpfndeaaa.Lw Go.Proofs.Ytimnhdmpfndeaaa.St Go.Proofs.Ytimnhdmpfndeaaa.Nm Go.Proofs.Ytimnhdmpfndeaaa.By Go.Proofs.Ytimnhdmpfndeaaa.En Go.Proofs.Ytimnhdmpfndeaaa.Jr Go.Proofs.Ytimnhdmpfndeaaa.Im Go.Proofs.Ytimnhdmpfndeaaa.Sl Go.Proofs.Ytimnhdmpfndeaaa.Gr Go.Proofs.Ytimnhdmpfndeaaa.Ops Go.Proofs.Ytimnhdmpfndeaaa.Ch Go.Proofs.Ytimnhdmpfndeaaa.Fl
set_option linter.unusedVariables false
set_option linter.unusedSimpArgs false
attribute [local irreducible] gotB goodB Cr.crcB nQ nS nZ nM wholeB
theorem free_pl {f : ByteArray} : ∀ (n k j : Nat), freeFrom f k n = some j → placeB f j = fullB 24
  | 0, k, j, h => by simp [freeFrom] at h
  | n + 1, k, j, h => by
    unfold freeFrom at h
    by_cases hp : placeB f k = fullB 24
    · rw [if_pos hp] at h
      injection h with h
      rw [← h]
      exact hp
    · rw [if_neg hp] at h
      exact free_pl n (k + 1) j h
theorem free_byt {f : ByteArray} {s k : Nat} (hf : f.size = 768) (hs : s < 2) (h : freeO f s = some k) {j : Nat} (h1 : 24 * k ≤ j) (h2 : j < 24 * k + 24) : byt f j = 255 := by
  have hl := freeO_lt h
  have hp : placeB f k = fullB 24 := free_pl 4 (4 * s) k h
  have e : byt (placeB f k) (j - 24 * k) = byt f j := by
    unfold placeB
    rw [Fl.byt_ex _ _ _ _ (by omega) (by omega)]
    congr 1
    omega
  rw [← e, hp, byt_full (by omega)]
theorem pad24 {t : ByteArray} (h : t.size = 24) : padB t = t := by
  unfold padB
  rw [h]
  apply byt_ext
  · rw [ByteArray.size_append, full_size]
    omega
  · intro j hj
    rw [ByteArray.size_append, full_size] at hj
    rw [byt_left _ _ (by omega)]
theorem write24 {f t : ByteArray} {a : Nat} (ht : t.size = 24) (ha : a + 24 ≤ f.size) (hb : ∀ j, a ≤ j → j < a + 24 → byt f j = 255) {j : Nat} (hj : j < f.size) :
    byt (allB f (wordsL (a : Int) t)) j = if a ≤ j ∧ j < a + 24 then byt t (j - a) else byt f j := by
  have e : wordsL (a : Int) t = wordsN (a : Int) t 6 := by unfold wordsL; rw [ht]
  rw [e, byt_write 6 (by omega) (by omega) (fun j h1 h2 => hb j h1 (by omega)) j hj, pad24 ht]
theorem app_some {f : ByteArray} {q s z m : Int} {k : Nat} (hf : f.size = 768) (h : freeO f (homeN f) = some k) {j : Nat} (hj : j < 768) :
    byt (allB f (appL f q s z m)) j = if 24 * k ≤ j ∧ j < 24 * k + 24 then byt (wholeB q s z m) (j - 24 * k) else byt f j := by
  have hl := home_lt f
  have hk := freeO_lt h
  have e : appL f q s z m = wordsL ((24 * k : Nat) : Int) (wholeB q s z m) := by simp only [appL, headL, spotN, h, List.nil_append]; rfl
  rw [e]
  exact write24 (whole_size q s z m) (by omega) (fun j h1 h2 => free_byt hf hl h h1 h2) (by omega)
theorem app_none {f : ByteArray} {q s z m : Int} (hf : f.size = 768) (h : freeO f (homeN f) = none) {j : Nat} (hj : j < 768) :
    byt (allB f (appL f q s z m)) j = if (1 - homeN f) * 96 ≤ j ∧ j < (1 - homeN f) * 96 + 24 then byt (wholeB q s z m) (j - (1 - homeN f) * 96) else if (1 - homeN f) * 96 ≤ j ∧ j < (1 - homeN f) * 96 + 96 then 255 else byt f j := by
  have hl := home_lt f
  obtain ⟨u, hu⟩ : ∃ u : Nat, 1 - homeN f = u := ⟨_, rfl⟩
  have hui : (1 - (homeN f : Int)) = (u : Int) := by omega
  have hu1 : u ≤ 1 := by omega
  have e : appL f q s z m = [(true, (u : Int) * 96, (⟨#[]⟩ : ByteArray))] ++ wordsL ((u * 96 : Nat) : Int) (wholeB q s z m) := by
    simp only [appL, headL, spotN, h, hui]
    rfl
  rw [e, all_app]
  have e2 : allB f [(true, (u : Int) * 96, (⟨#[]⟩ : ByteArray))] = wornB f u 96 := do_erase
  have hz : (wornB f u 96).size = 768 := (worn_size (by omega)).trans hf
  rw [e2, hu]
  have hw : ∀ i, i < 768 → byt (wornB f u 96) i = if u * 96 ≤ i ∧ i < u * 96 + 96 then 255 else byt f i := fun i hi => byt_worn (by omega) (by omega)
  rw [write24 (whole_size q s z m) (by omega) (fun i h1 h2 => by rw [hw i (by omega), if_pos (by omega)]) (by omega), hw j hj]
end Go.Proofs.Ytimnhdmpfndeaaa.Pl
end
/- Layer 8: a new record's steps leave the active record and the slots as they were, and write the record: in plain Lean. -/
section
namespace Go.Proofs.Ytimnhdmpfndeaaa.Pl
open Go.RowKit Go.Proofs.Ytimnhdmpfndeaaa.Kt Go.Proofs.Ytimnhdmpfndeaaa.Lw Go.Proofs.Ytimnhdmpfndeaaa.St Go.Proofs.Ytimnhdmpfndeaaa.Nm Go.Proofs.Ytimnhdmpfndeaaa.By Go.Proofs.Ytimnhdmpfndeaaa.En Go.Proofs.Ytimnhdmpfndeaaa.Jr Go.Proofs.Ytimnhdmpfndeaaa.Im Go.Proofs.Ytimnhdmpfndeaaa.Sl Go.Proofs.Ytimnhdmpfndeaaa.Gr Go.Proofs.Ytimnhdmpfndeaaa.Ops Go.Proofs.Ytimnhdmpfndeaaa.Ch Go.Proofs.Ytimnhdmpfndeaaa.Fl
set_option linter.unusedVariables false
set_option linter.unusedSimpArgs false
theorem got_blank : gotB (fullB 24) = false := by decide +kernel
attribute [local irreducible] gotB goodB Cr.crcB nQ nS nZ nM wholeB
theorem act_keeps {f : ByteArray} {p : PlV} {q s z m : Int} (hf : f.size = 768) (h : activeO f = some p) {j : Nat} (h1 : p.at_ ≤ (j : Int)) (h2 : (j : Int) < p.at_ + 24) : byt (allB f (appL f q s z m)) j = byt f j := by
  have hh := home_some h
  obtain ⟨i, hi, rfl, hg⟩ := act_ok h
  simp only [plOf] at h1 h2 hh
  have hm : homeN f = i / 4 := by rw [hh]; omega
  cases hk : freeO f (homeN f) with
  | some k =>
    have hkl := freeO_lt hk
    have hp : placeB f k = fullB 24 := free_pl 4 (4 * homeN f) k hk
    have hne : k ≠ i := by
      rintro rfl
      rw [hp, got_blank] at hg
      exact absurd hg (by simp)
    rw [app_some hf hk (by omega), if_neg (by omega)]
  | none => rw [app_none hf hk (by omega), if_neg (by omega), if_neg (by omega)]
theorem slots_keep {f : ByteArray} {q s z m : Int} (hf : f.size = 768) {j : Nat} (h1 : 192 ≤ j) (h2 : j < 768) : byt (allB f (appL f q s z m)) j = byt f j := by
  have hl := home_lt f
  cases hk : freeO f (homeN f) with
  | some k =>
    have hkl := freeO_lt hk
    rw [app_some hf hk h2, if_neg (by omega)]
  | none => rw [app_none hf hk h2, if_neg (by omega), if_neg (by omega)]
theorem spot_holds {f : ByteArray} {q s z m : Int} (hf : f.size = 768) {j : Nat} (h1 : spotN f ≤ (j : Int)) (h2 : (j : Int) < spotN f + 24) : byt (allB f (appL f q s z m)) j = byt (wholeB q s z m) (j - (spotN f).toNat) := by
  have hl := home_lt f
  cases hk : freeO f (homeN f) with
  | some k =>
    have hkl := freeO_lt hk
    simp only [spotN, hk] at h1 h2 ⊢
    rw [app_some hf hk (by omega), if_pos (by omega)]
    exact congrArg (byt _) (by omega)
  | none =>
    simp only [spotN, hk] at h1 h2 ⊢
    rw [app_none hf hk (by omega), if_pos (by omega)]
    exact congrArg (byt _) (by omega)
theorem ext_same {a b : ByteArray} {i j : Nat} (ha : j ≤ a.size) (hb : j ≤ b.size) (h : ∀ k, i ≤ k → k < j → byt a k = byt b k) : a.extract i j = b.extract i j := by
  have sa : (a.extract i j).size = j - i := by rw [ByteArray.size_extract]; omega
  have sb : (b.extract i j).size = j - i := by rw [ByteArray.size_extract]; omega
  refine byt_ext (by rw [sa, sb]) fun k hk => ?_
  rw [sa] at hk
  rw [Fl.byt_ex _ _ _ _ (by omega) ha, Fl.byt_ex _ _ _ _ (by omega) hb]
  exact h _ (by omega) (by omega)
end Go.Proofs.Ytimnhdmpfndeaaa.Pl
end
/- Layer 8: PlaceHome, where nothing may be appended. -/
section
namespace Go.Proofs.Ytimnhdmpfndeaaa.Pl
open Go.RowKit Go.Proofs.Ytimnhdmpfndeaaa.Kt Go.Proofs.Ytimnhdmpfndeaaa.Lw Go.Proofs.Ytimnhdmpfndeaaa.St Go.Proofs.Ytimnhdmpfndeaaa.Nm Go.Proofs.Ytimnhdmpfndeaaa.By Go.Proofs.Ytimnhdmpfndeaaa.En Go.Proofs.Ytimnhdmpfndeaaa.Jr Go.Proofs.Ytimnhdmpfndeaaa.Im Go.Proofs.Ytimnhdmpfndeaaa.Sl Go.Proofs.Ytimnhdmpfndeaaa.Gr Go.Proofs.Ytimnhdmpfndeaaa.Ops Go.Proofs.Ytimnhdmpfndeaaa.Ch Go.Proofs.Ytimnhdmpfndeaaa.Fl
set_option linter.unusedVariables false
set_option linter.unusedSimpArgs false
attribute [local irreducible] gotB goodB Cr.crcB nQ nS nZ nM placeB wholeB
theorem act_any (f : ByteArray) (h : f.size ≤ 9223372036854775807) : ∃ a b c d g E : Int, ∀ W : World, Calls Try.prog 18 #[.string f] W fun e w' => e = .returned (.tuple #[.agg #[.int .i64 a, .int .i64 b, .int .i64 c, .int .i64 d, .int .i64 g], .int .i64 E]) ∧ Below W.heap.size W w' := by
  by_cases hf : f.size = 768
  · cases ho : activeO f with
    | some p =>
      refine ⟨p.at_, p.q, p.s, p.z, p.m, actE f, fun W => ?_⟩
      have k := ractive_c f W hf
      have e : actV f = #[.int .i64 p.at_, .int .i64 p.q, .int .i64 p.s, .int .i64 p.z, .int .i64 p.m] := by simp only [actV, ho]
      rwa [e] at k
    | none =>
      refine ⟨0, 0, 0, 0, 0, actE f, fun W => ?_⟩
      have k := ractive_c f W hf
      have e : actV f = #[.int .i64 0, .int .i64 0, .int .i64 0, .int .i64 0, .int .i64 0] := by simp only [actV, ho]
      rwa [e] at k
  · exact ⟨0, 0, 0, 0, 0, 700, fun W => ractive_no f W h hf⟩
set_option maxRecDepth 100000 in
set_option maxHeartbeats 6400000 in
theorem phome_no (f : ByteArray) (q s z m : Int) (w : World) (h : f.size ≤ 9223372036854775807) (hn : ¬ (f.size = 768 ∧ recMay q s z m = true)) :
    Calls Try.prog 6 #[.string f, .agg #[.int .i64 q, .int .i64 s, .int .i64 z, .int .i64 m]] w fun e w' => e = .returned (.bool true) ∧ Below w.heap.size w w' := by
  have HB := Below.refl w.heap.size w
  have K0 := Blk.new w #[.int .i64 q, .int .i64 s, .int .i64 z, .int .i64 m] 23
  obtain ⟨a, b, c, d, g, E, hA⟩ := act_any f h
  have ac := Lib.hid hA
  have ap := Lib.hid (fun W : World => append_no f q s z m W h hn)
  clear h hn hA
  go_enter Try.func6, Try.ntmps6
  go_wp2_with (first | (go_at_call 17; with_reducible refine (awake_c _).mono ?_; rintro e w' ⟨rfl, hb⟩; have HB := bl_step (w := w) (by repeat (with_reducible first | exact HB | (refine bl_set ?_ (by omega)) | apply bl_alloc | apply bl_drew | apply bl_drewN | fail)) hb; have hzB := HB.size; have K0 := Blk.on (by first | exact K0 | exact K0 #[] | exact K0 (.cells #[] 0) #[]) (by repeat (with_reducible first | exact K0 | exact K0 _ | exact K0 _ _ | apply Blk.alloc | apply Blk.drew | apply Blk.drewN | apply Blk.set4_0 | apply Blk.set4_1 | apply Blk.set4_2 | apply Blk.set4_3 | (apply Blk.off; (first | assumption | omega | (simp; omega))) | fail)) hb; (try clear cK0_0 cK0_1 cK0_2 cK0_3 fK0 lK0 nK0 mK0); obtain ⟨cK0_0, cK0_1, cK0_2, cK0_3, fK0, lK0, nK0, mK0⟩ := Blk.all4 K0) | (go_at_call 18; with_reducible refine (ac.out _).mono ?_; rintro e w' ⟨rfl, hb⟩; have HB := bl_step (w := w) (by repeat (with_reducible first | exact HB | (refine bl_set ?_ (by omega)) | apply bl_alloc | apply bl_drew | apply bl_drewN | fail)) hb; have hzB := HB.size; have K0 := Blk.on (by first | exact K0 | exact K0 #[] | exact K0 (.cells #[] 0) #[]) (by repeat (with_reducible first | exact K0 | exact K0 _ | exact K0 _ _ | apply Blk.alloc | apply Blk.drew | apply Blk.drewN | apply Blk.set4_0 | apply Blk.set4_1 | apply Blk.set4_2 | apply Blk.set4_3 | (apply Blk.off; (first | assumption | omega | (simp; omega))) | fail)) hb; (try clear cK0_0 cK0_1 cK0_2 cK0_3 fK0 lK0 nK0 mK0); obtain ⟨cK0_0, cK0_1, cK0_2, cK0_3, fK0, lK0, nK0, mK0⟩ := Blk.all4 K0; have K1 := fun cs => Blk.new w' cs 40) | (go_at_call 12; with_reducible refine (ap.out _).mono ?_; rintro e w' ⟨rfl, hb⟩; have HB := bl_step (w := w) (by repeat (with_reducible first | exact HB | (refine bl_set ?_ (by omega)) | apply bl_alloc | apply bl_drew | apply bl_drewN | fail)) hb; have hzB := HB.size; have K0 := Blk.on (by first | exact K0 | exact K0 #[] | exact K0 (.cells #[] 0) #[]) (by repeat (with_reducible first | exact K0 | exact K0 _ | exact K0 _ _ | apply Blk.alloc | apply Blk.drew | apply Blk.drewN | apply Blk.set4_0 | apply Blk.set4_1 | apply Blk.set4_2 | apply Blk.set4_3 | (apply Blk.off; (first | assumption | omega | (simp; omega))) | fail)) hb; (try clear cK0_0 cK0_1 cK0_2 cK0_3 fK0 lK0 nK0 mK0); obtain ⟨cK0_0, cK0_1, cK0_2, cK0_3, fK0, lK0, nK0, mK0⟩ := Blk.all4 K0) | (go_at_call 14; with_reducible refine (enum_c _ _).mono ?_; rintro e w' ⟨rfl, rfl⟩) | fail)
  go_ret
  exact ⟨rfl, HB⟩
end Go.Proofs.Ytimnhdmpfndeaaa.Pl
end
/- Layer 8: which steps of a new record erase: in plain Lean. -/
section
namespace Go.Proofs.Ytimnhdmpfndeaaa.Pl
open Go.RowKit Go.Proofs.Ytimnhdmpfndeaaa.Kt Go.Proofs.Ytimnhdmpfndeaaa.Lw Go.Proofs.Ytimnhdmpfndeaaa.St Go.Proofs.Ytimnhdmpfndeaaa.Nm Go.Proofs.Ytimnhdmpfndeaaa.By Go.Proofs.Ytimnhdmpfndeaaa.En Go.Proofs.Ytimnhdmpfndeaaa.Jr Go.Proofs.Ytimnhdmpfndeaaa.Im Go.Proofs.Ytimnhdmpfndeaaa.Sl Go.Proofs.Ytimnhdmpfndeaaa.Gr Go.Proofs.Ytimnhdmpfndeaaa.Ops Go.Proofs.Ytimnhdmpfndeaaa.Ch Go.Proofs.Ytimnhdmpfndeaaa.Fl
set_option linter.unusedVariables false
set_option linter.unusedSimpArgs false
attribute [local irreducible] gotB goodB Cr.crcB nQ nS nZ nM placeB wholeB
theorem words_no {a : Int} {t : ByteArray} {o : OpV} (h : o ∈ wordsL a t) : o.1 = false := by
  simp only [wordsL, wordsN, List.mem_map] at h
  obtain ⟨i, _, rfl⟩ := h
  rfl
/-- the half that is not the active one's. -/
theorem app_steps (f : ByteArray) (q s z m : Int) {i : Nat} {o : OpV} (h : (appL f q s z m)[i]? = some o) :
    (o.1 = false ∧ ((appL f q s z m).length = 6 ∨ (appL f q s z m).length = 7 ∧ 0 < i)) ∨ (o.1 = true ∧ o.2.1 = (1 - (homeN f : Int)) * 96 ∧ (appL f q s z m).length = 7 ∧ i = 0) := by
  have hw := words24_len (a := spotN f) (whole_size q s z m)
  cases hk : freeO f (homeN f) with
  | some k =>
    have e : headL f = [] := by simp only [headL, hk]
    unfold appL at h ⊢
    rw [e, List.nil_append] at h ⊢
    exact .inl ⟨words_no (List.mem_of_getElem? h), .inl hw⟩
  | none =>
    have e : headL f = [(true, (1 - (homeN f : Int)) * 96, ⟨#[]⟩)] := by simp only [headL, hk]
    unfold appL at h ⊢
    rw [e] at h ⊢
    have hl : ([(true, (1 - (homeN f : Int)) * 96, (⟨#[]⟩ : ByteArray))] ++ wordsL (spotN f) (wholeB q s z m)).length = 7 := by rw [List.length_append, hw]; rfl
    rw [hl]
    cases i with
    | zero =>
      simp only [List.cons_append, List.nil_append, List.getElem?_cons_zero, Option.some.injEq] at h
      subst h
      exact .inr ⟨rfl, rfl, rfl, rfl⟩
    | succ i =>
      simp only [List.cons_append, List.nil_append, List.getElem?_cons_succ] at h
      exact .inl ⟨words_no (List.mem_of_getElem? h), .inr ⟨rfl, by omega⟩⟩
/-- the sixth step from behind begins the record. -/
theorem app_begin (f : ByteArray) (q s z m : Int) : ∃ o, (appL f q s z m)[(appL f q s z m).length - 6]? = some o ∧ o.1 = false ∧ o.2.1 = spotN f := by
  have hw := words24_len (a := spotN f) (whole_size q s z m)
  have hl : (appL f q s z m).length = (headL f).length + 6 := by unfold appL; rw [List.length_append, hw]
  have h0 : (wordsL (spotN f) (wholeB q s z m))[0]? = some (wordV (spotN f) (wholeB q s z m) 0) := by
    unfold wordsL
    rw [whole_size]
    rfl
  refine ⟨wordV (spotN f) (wholeB q s z m) 0, ?_, rfl, (by show spotN f + 4 * ((0 : Nat) : Int) = spotN f; omega)⟩
  rw [hl]
  unfold appL
  rw [List.getElem?_append_right (by omega)]
  rw [show (headL f).length + 6 - 6 - (headL f).length = 0 by omega]
  exact h0
end Go.Proofs.Ytimnhdmpfndeaaa.Pl
end
