/- Layer 8: PlaceHome, whole. -/
import Derived.Test.YtimnhdmpfndeaaaPlt
namespace Go.Proofs.Ytimnhdmpfndeaaa.Pl
open Go.RowKit Go.Proofs.Ytimnhdmpfndeaaa.Kt Go.Proofs.Ytimnhdmpfndeaaa.Lw Go.Proofs.Ytimnhdmpfndeaaa.St Go.Proofs.Ytimnhdmpfndeaaa.Nm Go.Proofs.Ytimnhdmpfndeaaa.By Go.Proofs.Ytimnhdmpfndeaaa.En Go.Proofs.Ytimnhdmpfndeaaa.Jr Go.Proofs.Ytimnhdmpfndeaaa.Im Go.Proofs.Ytimnhdmpfndeaaa.Sl Go.Proofs.Ytimnhdmpfndeaaa.Gr Go.Proofs.Ytimnhdmpfndeaaa.Ops Go.Proofs.Ytimnhdmpfndeaaa.Ch Go.Proofs.Ytimnhdmpfndeaaa.Fl
set_option linter.unusedVariables false
set_option linter.unusedSimpArgs false
attribute [local irreducible] gotB goodB Cr.crcB nQ nS nZ nM placeB wholeB
theorem all_app_size {f : ByteArray} {q s z m : Int} (hf : f.size = 768) : (allB f (appL f q s z m)).size = 768 := all_size hf (app_may f q s z m)
/-- what the active place and the home are to each other. -/
theorem act_home (f : ByteArray) (hf : f.size = 768) : ∃ a b c d g E : Int, (∀ W : World, Calls Try.prog 18 #[.string f] W fun e w' => e = .returned (.tuple #[.agg #[.int .i64 a, .int .i64 b, .int .i64 c, .int .i64 d, .int .i64 g], .int .i64 E]) ∧ Below W.heap.size W w') ∧
    (E = 0 ∨ E = 701) ∧ 0 ≤ a ∧ a ≤ 168 ∧ ((E = 701 ∧ homeN f = 0) ∨ (E = 0 ∧ a / 96 = (homeN f : Int) ∧ ∃ p, activeO f = some p ∧ p.at_ = a)) := by
  cases ho : activeO f with
  | some p =>
    have hr := (act_ok ho).at_rng
    have hh := home_some ho
    refine ⟨p.at_, p.q, p.s, p.z, p.m, 0, fun W => ?_, .inl rfl, by omega, by omega, .inr ⟨rfl, by omega, p, rfl, rfl⟩⟩
    have k := ractive_c f W hf
    rwa [(act_some ho).1, (act_some ho).2] at k
  | none =>
    refine ⟨0, 0, 0, 0, 0, 701, fun W => ?_, .inr rfl, by omega, by omega, .inl ⟨rfl, home_none ho⟩⟩
    have k := ractive_c f W hf
    rwa [(act_none ho).1, (act_none ho).2] at k
theorem phome_yes (f : ByteArray) (q s z m : Int) (w : World) (hf : f.size = 768) (hm : recMay q s z m = true) :
    Calls Try.prog 6 #[.string f, .agg #[.int .i64 q, .int .i64 s, .int .i64 z, .int .i64 m]] w fun e w' => e = .returned (.bool true) ∧ Below w.heap.size w w' := by
  obtain ⟨a, q1, s1, z1, m1, E, hac, hE, ha0, ha1, hA⟩ := act_home f hf
  have hl := home_lt f
  obtain ⟨hk0, _, hk1⟩ := spot_ok f
  obtain ⟨k, hk⟩ := Int.eq_ofNat_of_zero_le hk0
  have hX := all_app_size (q := q) (s := s) (z := z) (m := m) hf
  have hpt : ∀ W : World, Calls Try.prog 25 #[.agg #[.int .i64 q, .int .i64 s, .int .i64 z, .int .i64 m]] W fun e w' => e = .returned (.tuple #[.string (wholeB q s z m), .int .i64 0]) ∧ Below W.heap.size W w' := fun W => by
    have h := rput_c q s z m W
    rwa [show putB q s z m = wholeB q s z m by simp [putB, hm], show putE q s z m = 0 by simp [putE, hm]] at h
  have hx1 : (allB f (appL f q s z m)).extract 192 768 = f.extract 192 768 := ext_same (by omega) (by omega) fun j h1 h2 => slots_keep hf h1 h2
  have hws := whole_size q s z m
  have hx2 : (allB f (appL f q s z m)).extract k (k + 24) = wholeB q s z m := by
    have e : ((allB f (appL f q s z m)).extract k (k + 24)).size = 24 := by rw [ByteArray.size_extract]; omega
    refine byt_ext (by omega) fun j hj => ?_
    rw [Fl.byt_ex _ _ _ _ (by omega) (by omega), spot_holds hf (by omega) (by omega)]
    exact congrArg (byt _) (by omega)
  have hx3 : ∀ j : Nat, E = 0 → a = (j : Int) → (allB f (appL f q s z m)).extract j (j + 24) = f.extract j (j + 24) := fun j h0 hj => by
    rcases hA with ⟨h, _⟩ | ⟨_, _, p, hp, hpa⟩
    · omega
    · exact ext_same (by omega) (by omega) fun i h1 h2 => act_keeps hf hp (by omega) (by omega)
  obtain ⟨o6, ho6, _, ho62⟩ := app_begin f q s z m
  have hlen := app_len f q s z m
  have hst := fun i o h => app_steps f q s z m (i := i) (o := o) h
  by_cases hn : (appL f q s z m).length = 6
  · rw [hn] at ho6
    have hap : ∀ W : World, Calls Try.prog 12 #[.string f, .agg #[.int .i64 q, .int .i64 s, .int .i64 z, .int .i64 m]] W fun e w' => ∃ A c, e = .returned (.tuple #[.slice A 6 c, .int .i64 0]) ∧ Lies encOp 3 w' A (appL f q s z m) ∧ Below W.heap.size W w' := fun W => by
      refine (append_yes f q s z m W hf hm).mono ?_
      rintro e w' ⟨A, c, h1, h2, h3⟩
      exact ⟨A, c, by rw [h1, hn], lies_own encOp_len h2 rfl, h3⟩
    have hw : ∀ (i : Nat) (o : OpV), (appL f q s z m)[i]? = some o → o.1 = false := fun i o h => by
      rcases hst i o h with ⟨h1, _⟩ | ⟨_, _, h7, _⟩
      · exact h1
      · omega
    exact phome_6 f _ _ q s z m a q1 s1 z1 m1 E _ k w hf hX hws (by omega) hE ha0 ha1 hac hap hpt hn (app_may f q s z m) rfl ⟨o6, ho6, hw _ _ ho6⟩ hw ⟨o6, ho6, by omega⟩ hx1 hx2 hx3
  · have hn7 : (appL f q s z m).length = 7 := by omega
    rw [hn7] at ho6
    have hap : ∀ W : World, Calls Try.prog 12 #[.string f, .agg #[.int .i64 q, .int .i64 s, .int .i64 z, .int .i64 m]] W fun e w' => ∃ A c, e = .returned (.tuple #[.slice A 7 c, .int .i64 0]) ∧ Lies encOp 3 w' A (appL f q s z m) ∧ Below W.heap.size W w' := fun W => by
      refine (append_yes f q s z m W hf hm).mono ?_
      rintro e w' ⟨A, c, h1, h2, h3⟩
      exact ⟨A, c, by rw [h1, hn7], lies_own encOp_len h2 rfl, h3⟩
    have hw : ∀ (i : Nat) (o : OpV), 0 < i → (appL f q s z m)[i]? = some o → o.1 = false := fun i o h0 h => by
      rcases hst i o h with ⟨h1, _⟩ | ⟨_, _, _, h7⟩
      · exact h1
      · omega
    have h0 : ∃ o, (appL f q s z m)[0]? = some o ∧ o.1 = true ∧ erOk E a o := by
      have hx : (appL f q s z m)[0]? = some ((appL f q s z m)[0]'(by omega)) := List.getElem?_eq_getElem (by omega)
      refine ⟨_, hx, ?_⟩
      rcases hst _ _ hx with ⟨_, h6 | ⟨_, h0⟩⟩ | ⟨h1, h2, _, _⟩
      · omega
      · omega
      · refine ⟨h1, ?_⟩
        unfold erOk
        rw [h2]
        rcases hA with ⟨h3, h4⟩ | ⟨h3, h4, _⟩
        · exact .inl ⟨by omega, .inl h3⟩
        · have : homeN f = 0 ∨ homeN f = 1 := by omega
          rcases this with h5 | h5
          · exact .inl ⟨by omega, .inr ⟨h3, by omega⟩⟩
          · exact .inr ⟨by omega, h3, by omega⟩
    exact phome_7 f _ _ q s z m a q1 s1 z1 m1 E _ k w hf hX hws (by omega) hE ha0 ha1 hac hap hpt hn7 (app_may f q s z m) rfl h0 hw ⟨o6, ho6, by omega⟩ hx1 hx2 hx3
theorem phome_w (f : ByteArray) (q s z m : Int) (w : World) (h : f.size ≤ 9223372036854775807) :
    Calls Try.prog 6 #[.string f, .agg #[.int .i64 q, .int .i64 s, .int .i64 z, .int .i64 m]] w fun e w' => e = .returned (.bool true) ∧ Below w.heap.size w w' := by
  by_cases hh : f.size = 768 ∧ recMay q s z m = true
  · exact phome_yes f q s z m w hh.1 hh.2
  · exact phome_no f q s z m w h hh
end Go.Proofs.Ytimnhdmpfndeaaa.Pl
