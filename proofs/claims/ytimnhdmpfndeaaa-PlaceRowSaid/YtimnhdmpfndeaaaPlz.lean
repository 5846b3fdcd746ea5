/- Layer 8: PlaceCut, whole. -/
import Derived.Test.YtimnhdmpfndeaaaPly
import Derived.Test.YtimnhdmpfndeaaaGq
namespace Go.Proofs.Ytimnhdmpfndeaaa.Pl
open Go.RowKit Go.Proofs.Ytimnhdmpfndeaaa.Kt Go.Proofs.Ytimnhdmpfndeaaa.Lw Go.Proofs.Ytimnhdmpfndeaaa.St Go.Proofs.Ytimnhdmpfndeaaa.Nm Go.Proofs.Ytimnhdmpfndeaaa.By Go.Proofs.Ytimnhdmpfndeaaa.En Go.Proofs.Ytimnhdmpfndeaaa.Jr Go.Proofs.Ytimnhdmpfndeaaa.Im Go.Proofs.Ytimnhdmpfndeaaa.Sl Go.Proofs.Ytimnhdmpfndeaaa.Gr Go.Proofs.Ytimnhdmpfndeaaa.Ops Go.Proofs.Ytimnhdmpfndeaaa.Ch Go.Proofs.Ytimnhdmpfndeaaa.Fl
set_option linter.unusedVariables false
set_option linter.unusedSimpArgs false
attribute [local irreducible] gotB goodB Cr.crcB nQ nS nZ nM placeB wholeB
theorem umod_nat (x m : Int) (h0 : 0 < m) (h1 : m ≤ 1000000) : ∃ k : Nat, wrap64 (Int.tmod (IntKind.u64.wrap x) m) = (k : Int) ∧ (k : Int) < m := by
  have h := Bt.umod x m h0 h1
  simp only [IntKind.wrap_i64] at h
  have h2 : 0 ≤ wrap64 (Int.tmod (IntKind.u64.wrap x) m) ∧ wrap64 (Int.tmod (IntKind.u64.wrap x) m) < m := by unfold wrap64; exact h
  obtain ⟨k, hk⟩ := Int.eq_ofNat_of_zero_le h2.1
  exact ⟨k, hk, by omega⟩
theorem rec_four (f : ByteArray) (s z : Int) : ∃ a b c d : Int, recV f s z = #[.int .i64 a, .int .i64 b, .int .i64 c, .int .i64 d] := by
  unfold recV
  split
  · exact ⟨_, _, _, _, rfl⟩
  · exact ⟨_, _, _, _, rfl⟩
set_option maxRecDepth 100000 in
set_option maxHeartbeats 6400000 in
theorem pcut_no (f : ByteArray) (slot size many cut a0 a1 a2 a3 a4 E Q S Zz M G : Int) (w : World)
    (hac : ∀ W : World, Calls Try.prog 18 #[.string f] W fun e w' => e = .returned (.tuple #[.agg #[.int .i64 a0, .int .i64 a1, .int .i64 a2, .int .i64 a3, .int .i64 a4], .int .i64 E]) ∧ Below W.heap.size W w')
    (hrc : ∀ W : World, Calls Try.prog 19 #[.string f, .int .i64 slot, .int .i64 size] W fun e w' => e = .returned (.tuple #[.agg #[.int .i64 Q, .int .i64 S, .int .i64 Zz, .int .i64 M], .int .i64 G]) ∧ Below W.heap.size W w')
    (h : E = 700 ∨ E = 701 ∨ (E = 0 ∧ (G = 801 ∨ G = 900))) :
    Calls Try.prog 4 #[.string f, .int .i64 slot, .int .i64 size, .int .i64 many, .int .i64 cut] w fun e w' => e = .returned (.bool true) ∧ Below w.heap.size w w' := by
  have HB := Below.refl w.heap.size w
  have ac := Lib.hid hac
  have rc := Lib.hid hrc
  clear hac hrc
  rcases h with rfl | rfl | ⟨rfl, rfl | rfl⟩
  all_goals (go_enter Try.func4, Try.ntmps4; go_wp2_with (first | (go_at_call 17; with_reducible refine (awake_c _).mono ?_; rintro e w' ⟨rfl, hb⟩; have HB := bl_step (w := w) (by repeat (with_reducible first | exact HB | (refine bl_set ?_ (by omega)) | apply bl_alloc | apply bl_drew | apply bl_drewN | fail)) hb; have hzB := HB.size) | (go_at_call 18; with_reducible refine (ac.out _).mono ?_; rintro e w1 ⟨rfl, hb⟩; have HB := bl_step (w := w) (by repeat (with_reducible first | exact HB | (refine bl_set ?_ (by omega)) | apply bl_alloc | apply bl_drew | apply bl_drewN | fail)) hb; have hzB := HB.size; have K1 := fun cs => Blk.new w1 cs 40) | (go_at_call 19; with_reducible refine (rc.out _).mono ?_; rintro e w' ⟨rfl, hb⟩; have HB := bl_step (w := w) (by repeat (with_reducible first | exact HB | (refine bl_set ?_ (by omega)) | apply bl_alloc | apply bl_drew | apply bl_drewN | fail)) hb; have hzB := HB.size) | fail); go_ret; exact ⟨rfl, (by repeat (with_reducible first | exact Below.refl _ _ | assumption | (refine bl_set ?_ (by omega)) | apply bl_alloc | apply bl_drewN | apply bl_drew | (refine bl_step ?_ (by assumption)) | fail))⟩)
set_option maxRecDepth 100000 in
set_option maxHeartbeats 6400000 in
theorem pcut_wild (f : ByteArray) (slot size many cut a0 a1 a2 a3 a4 Q S Zz M : Int) (w : World)
    (hac : ∀ W : World, Calls Try.prog 18 #[.string f] W fun e w' => e = .returned (.tuple #[.agg #[.int .i64 a0, .int .i64 a1, .int .i64 a2, .int .i64 a3, .int .i64 a4], .int .i64 0]) ∧ Below W.heap.size W w')
    (hrc : ∀ W : World, Calls Try.prog 19 #[.string f, .int .i64 slot, .int .i64 size] W fun e w' => e = .returned (.tuple #[.agg #[.int .i64 Q, .int .i64 S, .int .i64 Zz, .int .i64 M], .int .i64 0]) ∧ Below W.heap.size W w')
    (htf : ∀ W : World, Calls Try.prog 20 #[.string f] W fun e w' => e = .returned (.bool false) ∧ Below W.heap.size W w') :
    Calls Try.prog 4 #[.string f, .int .i64 slot, .int .i64 size, .int .i64 many, .int .i64 cut] w fun e w' => e = .returned (.bool true) ∧ Below w.heap.size w w' := by
  have HB := Below.refl w.heap.size w
  have ac := Lib.hid hac
  have rc := Lib.hid hrc
  have tf := Lib.hid htf
  clear hac hrc htf
  go_enter Try.func4, Try.ntmps4
  go_wp2_with (first | (go_at_call 17; with_reducible refine (awake_c _).mono ?_; rintro e w' ⟨rfl, hb⟩; have HB := bl_step (w := w) (by repeat (with_reducible first | exact HB | (refine bl_set ?_ (by omega)) | apply bl_alloc | apply bl_drew | apply bl_drewN | fail)) hb; have hzB := HB.size) | (go_at_call 18; with_reducible refine (ac.out _).mono ?_; rintro e w1 ⟨rfl, hb⟩; have HB := bl_step (w := w) (by repeat (with_reducible first | exact HB | (refine bl_set ?_ (by omega)) | apply bl_alloc | apply bl_drew | apply bl_drewN | fail)) hb; have hzB := HB.size; have K1 := fun cs => Blk.new w1 cs 40) | (go_at_call 19; with_reducible refine (rc.out _).mono ?_; rintro e w' ⟨rfl, hb⟩; have HB := bl_step (w := w) (by repeat (with_reducible first | exact HB | (refine bl_set ?_ (by omega)) | apply bl_alloc | apply bl_drew | apply bl_drewN | fail)) hb; have hzB := HB.size) | (go_at_call 20; with_reducible refine (tf.out _).mono ?_; rintro e w' ⟨rfl, hb⟩; have HB := bl_step (w := w) (by repeat (with_reducible first | exact HB | (refine bl_set ?_ (by omega)) | apply bl_alloc | apply bl_drew | apply bl_drewN | fail)) hb; have hzB := HB.size) | fail)
  go_ret
  exact ⟨rfl, (by repeat (with_reducible first | exact Below.refl _ _ | assumption | (refine bl_set ?_ (by omega)) | apply bl_alloc | apply bl_drewN | apply bl_drew | (refine bl_step ?_ (by assumption)) | fail))⟩
theorem max_ge {l : List PlV} {p : PlV} : ∀ (a : Int), p ∈ l → p.q ≤ l.foldl (fun a p => max a p.q) a := by
  have mono : ∀ (l : List PlV) (a : Int), a ≤ l.foldl (fun a p => max a p.q) a := by
    intro l
    induction l with
    | nil => intro a; exact Int.le_refl _
    | cons x l ih => intro a; exact Int.le_trans (Int.le_max_left _ _) (ih _)
  induction l with
  | nil => intro a h; simp at h
  | cons x l ih =>
    intro a h
    rcases List.mem_cons.1 h with rfl | h
    · exact Int.le_trans (Int.le_max_right _ _) (mono _ _)
    · exact ih _ h
theorem over_max (f : ByteArray) : Over f (maxL (scanL f) + 1) := fun k hk hg => by
  have h := max_ge (p := plOf f k) 0 (scan_mem hk hg)
  have e : (plOf f k).q = nQ (placeB f k) := by simp only [plOf]
  rw [e] at h
  unfold maxL
  omega
/-- what RecordOf gives. -/
theorem rec_yes {f : ByteArray} {s z : Int} (h : recE f s z = 0) : (f.size = 768 ∧ rngB s 0 1 = true ∧ rngB z 1 288 = true) ∧ recV f s z = #[.int .i64 (maxL (scanL f) + 1), .int .i64 s, .int .i64 z, .int .i64 (Cr.crcB (imgB f s z))] ∧
    recMay (maxL (scanL f) + 1) s z (Cr.crcB (imgB f s z)) = true ∧ goodB f s z (Cr.crcB (imgB f s z)) = true := by
  unfold recE at h
  by_cases hok : recOk f s z = true
  · rw [if_pos hok] at h
    have hmx : ¬ maxL (scanL f) = 1048576 := fun e => by rw [if_pos e] at h; omega
    have hp : f.size = 768 ∧ rngB s 0 1 = true ∧ rngB z 1 288 = true := by simpa [recOk] using hok
    have hb := Cr.crcB_bd (imgB f s z)
    have hm := max_all f
    refine ⟨hp, by simp only [recV, hok, hmx, not_false_eq_true, and_self, if_true], ?_, ?_⟩
    · simp only [recMay, hp.2.1, hp.2.2]
      simp [rngB]
      omega
    · unfold goodB
      simp
  · rw [if_neg hok] at h
    omega
theorem rec_e (f : ByteArray) (s z : Int) : recE f s z = 0 ∨ recE f s z = 801 ∨ recE f s z = 900 := by
  unfold recE
  split
  · split
    · exact .inr (.inl rfl)
    · exact .inl rfl
  · exact .inr (.inr rfl)
theorem ract_of {y : ByteArray} {p : PlV} (hy : y.size = 768) (h : activeO y = some p) (W : World) : Calls Try.prog 18 #[.string y] W fun e w' => e = .returned (.tuple #[.agg #[.int .i64 p.at_, .int .i64 p.q, .int .i64 p.s, .int .i64 p.z, .int .i64 p.m], .int .i64 0]) ∧ Below W.heap.size W w' := by
  have k := ractive_c y W hy
  rwa [(act_some h).1, (act_some h).2] at k
theorem tame_t {y : ByteArray} (h : tameF y) (W : World) : Calls Try.prog 20 #[.string y] W fun e w' => e = .returned (.bool true) ∧ Below W.heap.size W w' := by
  refine (tame_yes y W h.1).mono ?_
  rintro e w' ⟨⟨b, rfl, hb⟩, hw⟩
  rw [hb.2 h]
  exact ⟨rfl, hw⟩
theorem pcut_yes (f : ByteArray) (slot size many cut : Int) (p : PlV) (w : World) (hf : f.size = 768) (ha : activeO f = some p) (hr : recE f slot size = 0) :
    Calls Try.prog 4 #[.string f, .int .i64 slot, .int .i64 size, .int .i64 many, .int .i64 cut] w fun e w' => e = .returned (.bool true) ∧ Below w.heap.size w w' := by
  obtain ⟨_, hv, hm, hg⟩ := rec_yes hr
  have hac := ract_of hf ha
  have hrc : ∀ W : World, _ := fun W : World => rrec_c f slot size W (by omega)
  rw [hv, hr] at hrc
  by_cases ht : tameF f
  · have hov := over_max f
    generalize maxL (scanL f) + 1 = Q at *
    generalize Cr.crcB (imgB f slot size) = M at *
    have hq : (Q == p.q) = false := by
      obtain ⟨k, hk, hpk, hgk⟩ := act_ok ha
      have := hov k hk hgk
      have e : p.q = nQ (placeB f k) := by rw [hpk]; simp only [plOf]
      simp
      omega
    have hL := app_may f Q slot size M
    have hlen := app_len f Q slot size M
    have hcut := umod_nat cut 97 (by decide) (by decide)
    obtain ⟨c, hcd, hc⟩ := hcut
    have main : ∀ n : Nat, n = (appL f Q slot size M).length → ∀ k, k < n → ∃ o, (appL f Q slot size M)[k]? = some o ∧ tameF (cutB (allB f ((appL f Q slot size M).take k)) o c) ∧ tameF (doB (allB f ((appL f Q slot size M).take k)) o) ∧
        (∃ b0 b1 b2 b3 b4 : Int, (∀ W : World, Calls Try.prog 18 #[.string (cutB (allB f ((appL f Q slot size M).take k)) o c)] W fun e w' => e = .returned (.tuple #[.agg #[.int .i64 b0, .int .i64 b1, .int .i64 b2, .int .i64 b3, .int .i64 b4], .int .i64 0]) ∧ Below W.heap.size W w') ∧
          ((b0 = p.at_ ∧ b1 = p.q ∧ b2 = p.s ∧ b3 = p.z ∧ b4 = p.m) ∨ (b1 = Q ∧ b2 = slot ∧ b3 = size ∧ b4 = M))) ∧
        (∃ b0 b1 b2 b3 b4 : Int, (∀ W : World, Calls Try.prog 18 #[.string (doB (allB f ((appL f Q slot size M).take k)) o)] W fun e w' => e = .returned (.tuple #[.agg #[.int .i64 b0, .int .i64 b1, .int .i64 b2, .int .i64 b3, .int .i64 b4], .int .i64 0]) ∧ Below W.heap.size W w') ∧
          ((k < n - 1 ∧ b0 = p.at_ ∧ b1 = p.q ∧ b2 = p.s ∧ b3 = p.z ∧ b4 = p.m) ∨ (b1 = Q ∧ b2 = slot ∧ b3 = size ∧ b4 = M))) := by
      intro n hn k hk
      have ho : (appL f Q slot size M)[k]? = some ((appL f Q slot size M)[k]'(by omega)) := List.getElem?_eq_getElem (by omega)
      generalize (appL f Q slot size M)[k]'(by omega) = o at ho
      obtain ⟨P, hP, _, L1, _⟩ := cut_steps (n := c) ht hm hov hg (by omega) ho
      obtain ⟨P', hP', _, L2, L3⟩ := cut_steps (n := 96) ht hm hov hg (by omega) ho
      refine ⟨o, ho, L1.tame, L2.tame, ?_, ?_⟩
      · rcases L1.active with h | h
        · rw [ha] at h
          exact ⟨_, _, _, _, _, ract_of L1.tame.1 h, .inl ⟨rfl, rfl, rfl, rfl, rfl⟩⟩
        · exact ⟨_, _, _, _, _, ract_of L1.tame.1 h, .inr ⟨rfl, rfl, rfl, rfl⟩⟩
      · by_cases hk1 : k < n - 1
        · rcases L2.active with h | h
          · rw [ha] at h
            exact ⟨_, _, _, _, _, ract_of L2.tame.1 h, .inl ⟨hk1, rfl, rfl, rfl, rfl, rfl⟩⟩
          · exact ⟨_, _, _, _, _, ract_of L2.tame.1 h, .inr ⟨rfl, rfl, rfl, rfl⟩⟩
        · obtain ⟨h, _⟩ := L3 (by omega) rfl
          exact ⟨_, _, _, _, _, ract_of L2.tame.1 h, .inr ⟨rfl, rfl, rfl, rfl⟩⟩
    by_cases hn : (appL f Q slot size M).length = 6
    · obtain ⟨k, hkd, hk⟩ := umod_nat many 6 (by decide) (by decide)
      have hap : ∀ W : World, Calls Try.prog 12 #[.string f, .agg #[.int .i64 Q, .int .i64 slot, .int .i64 size, .int .i64 M]] W fun e w' => ∃ A c, e = .returned (.tuple #[.slice A 6 c, .int .i64 0]) ∧ Lies encOp 3 w' A (appL f Q slot size M) ∧ Below W.heap.size W w' := fun W => by
        refine (append_yes f Q slot size M W hf hm).mono ?_
        rintro e w' ⟨A, c, h1, h2, h3⟩
        exact ⟨A, c, by rw [h1, hn], lies_own encOp_len h2 rfl, h3⟩
      obtain ⟨o, ho, t1, t2, h1, h2⟩ := main 6 hn.symm k (by omega)
      exact pcut_6 f _ _ slot size many cut _ _ _ _ _ Q slot size M _ o k c w hf hkd hcd (by omega) (by omega) hac hrc (tame_t ht) (tame_t t1) (tame_t t2) hap hn hL ho rfl rfl hq h1 h2
    · obtain ⟨k, hkd, hk⟩ := umod_nat many 7 (by decide) (by decide)
      have hn7 : (appL f Q slot size M).length = 7 := by omega
      have hap : ∀ W : World, Calls Try.prog 12 #[.string f, .agg #[.int .i64 Q, .int .i64 slot, .int .i64 size, .int .i64 M]] W fun e w' => ∃ A c, e = .returned (.tuple #[.slice A 7 c, .int .i64 0]) ∧ Lies encOp 3 w' A (appL f Q slot size M) ∧ Below W.heap.size W w' := fun W => by
        refine (append_yes f Q slot size M W hf hm).mono ?_
        rintro e w' ⟨A, c, h1, h2, h3⟩
        exact ⟨A, c, by rw [h1, hn7], lies_own encOp_len h2 rfl, h3⟩
      obtain ⟨o, ho, t1, t2, h1, h2⟩ := main 7 hn7.symm k (by omega)
      exact pcut_7 f _ _ slot size many cut _ _ _ _ _ Q slot size M _ o k c w hf hkd hcd (by omega) (by omega) hac hrc (tame_t ht) (tame_t t1) (tame_t t2) hap hn7 hL ho rfl rfl hq h1 h2
  · have htf : ∀ W : World, Calls Try.prog 20 #[.string f] W fun e w' => e = .returned (.bool false) ∧ Below W.heap.size W w' := fun W => by
      refine (tame_yes f W hf).mono ?_
      rintro e w' ⟨⟨b, rfl, hb⟩, hw⟩
      cases b
      · exact ⟨rfl, hw⟩
      · exact absurd (hb.1 rfl) ht
    exact pcut_wild f slot size many cut _ _ _ _ _ _ _ _ _ w hac hrc htf
theorem pcut_w (f : ByteArray) (slot size many cut : Int) (w : World) (h : f.size ≤ 9223372036854775807) :
    Calls Try.prog 4 #[.string f, .int .i64 slot, .int .i64 size, .int .i64 many, .int .i64 cut] w fun e w' => e = .returned (.bool true) ∧ Below w.heap.size w w' := by
  obtain ⟨Q, S, Zz, M, hv⟩ := rec_four f slot size
  have hrc : ∀ W : World, _ := fun W : World => rrec_c f slot size W h
  rw [hv] at hrc
  by_cases hf : f.size = 768
  · cases ha : activeO f with
    | none =>
      have hac : ∀ W : World, _ := fun W : World => ractive_c f W hf
      rw [(act_none ha).1, (act_none ha).2] at hac
      exact pcut_no f slot size many cut _ _ _ _ _ _ _ _ _ _ _ w hac hrc (.inr (.inl rfl))
    | some p =>
      rcases rec_e f slot size with hr | hr
      · exact pcut_yes f slot size many cut p w hf ha hr
      · exact pcut_no f slot size many cut _ _ _ _ _ _ _ _ _ _ _ w (ract_of hf ha) hrc (.inr (.inr ⟨rfl, hr⟩))
  · exact pcut_no f slot size many cut _ _ _ _ _ _ _ _ _ _ _ w (fun W => ractive_no f W h hf) hrc (.inl rfl)
end Go.Proofs.Ytimnhdmpfndeaaa.Pl
