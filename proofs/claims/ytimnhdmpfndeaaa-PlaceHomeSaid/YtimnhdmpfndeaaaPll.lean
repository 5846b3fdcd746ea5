/- Layer 8: the law of places, whole. -/
import Derived.Test.YtimnhdmpfndeaaaPlj
import Derived.Test.YtimnhdmpfndeaaaPlk
namespace Go.Proofs.Ytimnhdmpfndeaaa.Pl
open Go.RowKit Go.Proofs.Ytimnhdmpfndeaaa.Kt Go.Proofs.Ytimnhdmpfndeaaa.Lw Go.Proofs.Ytimnhdmpfndeaaa.St Go.Proofs.Ytimnhdmpfndeaaa.Nm Go.Proofs.Ytimnhdmpfndeaaa.By Go.Proofs.Ytimnhdmpfndeaaa.En Go.Proofs.Ytimnhdmpfndeaaa.Jr Go.Proofs.Ytimnhdmpfndeaaa.Im Go.Proofs.Ytimnhdmpfndeaaa.Sl Go.Proofs.Ytimnhdmpfndeaaa.Gr Go.Proofs.Ytimnhdmpfndeaaa.Ops Go.Proofs.Ytimnhdmpfndeaaa.Ch Go.Proofs.Ytimnhdmpfndeaaa.Fl
set_option linter.unusedVariables false
set_option linter.unusedSimpArgs false
attribute [local irreducible] gotB goodB Cr.crcB nQ nS nZ nM placeB wholeB
theorem own_open {W : World} {base k n c : Nat} {e : TypeId} {A : Option Addr} {cs : List Value} (h : W.ownsRow base e k (.slice A n c) n cs) (hn : 0 < n) : ∃ g, A = some ⟨g, 0, none⟩ ∧ base ≤ g ∧ n ≤ c ∧ c ≤ 9223372036854775807 := by
  rcases h.2 with ⟨_, h0⟩ | ⟨g, cap, cur, hv, hb, hg, hnc, hcm, _⟩
  · omega
  · injection hv with h1 h2 h3
    subst h3
    exact ⟨g, h1, hb, hnc, hcm⟩
theorem app_len (f : ByteArray) (q s z m : Int) : 6 ≤ (appL f q s z m).length ∧ (appL f q s z m).length ≤ 7 := by
  have h : (headL f).length ≤ 1 := by
    unfold headL
    cases freeO f (homeN f) <;> simp
  unfold appL
  rw [List.length_append, words24_len (whole_size q s z m)]
  omega
theorem next_two (f : ByteArray) : ∃ a b : Int, nextV f = #[.int .i64 a, .int .i64 b] := by
  unfold nextV
  split
  · split <;> exact ⟨_, _, rfl⟩
  · exact ⟨_, _, rfl⟩
theorem row_none {w : World} {A : Option Addr} : Row w A [] := ⟨Lies.nil, by simp, fun o ho => by simp at ho⟩
set_option maxRecDepth 100000 in
set_option maxHeartbeats 6400000 in
theorem places_no (f : ByteArray) (q s z m : Int) (w : World) (h : f.size ≤ 9223372036854775807) (hn : ¬ (f.size = 768 ∧ recMay q s z m = true)) :
    Calls Try.prog 3 #[.string f, .agg #[.int .i64 q, .int .i64 s, .int .i64 z, .int .i64 m]] w fun e w' => e = .returned (.bool true) ∧ Below w.heap.size w w' := by
  have HB := Below.refl w.heap.size w
  have K0 := Blk.new w #[.int .i64 q, .int .i64 s, .int .i64 z, .int .i64 m] 23
  have nx := Lib.hid (fun W : World => next_c f W h)
  have rn := Lib.hid (fun W : World => rnext_c f W h)
  obtain ⟨a, b, hab⟩ := next_two f
  rw [hab] at nx rn
  have ap := Lib.hid (fun W : World => append_no f q s z m W h hn)
  have ra := Lib.hid (fun W : World => rappend_no f q s z m W h hn)
  have sm := Lib.hid (fun W : World => same_c none none 0 0 0 0 [] [] W row_none row_none rfl rfl)
  rw [show decide (([] : List OpV) = []) = true from rfl] at sm
  clear hab h hn
  go_enter Try.func3, Try.ntmps3
  go_wp2_with (first | (go_at_call 10; with_reducible refine (nx.out _).mono ?_; rintro e w' ⟨rfl, hb⟩; have HB := bl_step (w := w) (by repeat (with_reducible first | exact HB | (refine bl_set ?_ (by omega)) | apply bl_alloc | apply bl_drew | apply bl_drewN | fail)) hb; have hzB := HB.size; have K0 := Blk.on (by first | exact K0 | exact K0 #[] | exact K0 (.cells #[] 0) #[]) (by repeat (with_reducible first | exact K0 | exact K0 _ | exact K0 _ _ | apply Blk.alloc | apply Blk.drew | apply Blk.drewN | apply Blk.set4_0 | apply Blk.set4_1 | apply Blk.set4_2 | apply Blk.set4_3 | (apply Blk.off; (first | assumption | omega | (simp; omega))) | fail)) hb; (try clear cK0_0 cK0_1 cK0_2 cK0_3 fK0 lK0 nK0 mK0); obtain ⟨cK0_0, cK0_1, cK0_2, cK0_3, fK0, lK0, nK0, mK0⟩ := Blk.all4 K0) | (go_at_call 11; with_reducible refine (rn.out _).mono ?_; rintro e w' ⟨rfl, hb⟩; have HB := bl_step (w := w) (by repeat (with_reducible first | exact HB | (refine bl_set ?_ (by omega)) | apply bl_alloc | apply bl_drew | apply bl_drewN | fail)) hb; have hzB := HB.size; have K0 := Blk.on (by first | exact K0 | exact K0 #[] | exact K0 (.cells #[] 0) #[]) (by repeat (with_reducible first | exact K0 | exact K0 _ | exact K0 _ _ | apply Blk.alloc | apply Blk.drew | apply Blk.drewN | apply Blk.set4_0 | apply Blk.set4_1 | apply Blk.set4_2 | apply Blk.set4_3 | (apply Blk.off; (first | assumption | omega | (simp; omega))) | fail)) hb; (try clear cK0_0 cK0_1 cK0_2 cK0_3 fK0 lK0 nK0 mK0); obtain ⟨cK0_0, cK0_1, cK0_2, cK0_3, fK0, lK0, nK0, mK0⟩ := Blk.all4 K0) | (go_at_call 12; with_reducible refine (ap.out _).mono ?_; rintro e w' ⟨rfl, hb⟩; have HB := bl_step (w := w) (by repeat (with_reducible first | exact HB | (refine bl_set ?_ (by omega)) | apply bl_alloc | apply bl_drew | apply bl_drewN | fail)) hb; have hzB := HB.size; have K0 := Blk.on (by first | exact K0 | exact K0 #[] | exact K0 (.cells #[] 0) #[]) (by repeat (with_reducible first | exact K0 | exact K0 _ | exact K0 _ _ | apply Blk.alloc | apply Blk.drew | apply Blk.drewN | apply Blk.set4_0 | apply Blk.set4_1 | apply Blk.set4_2 | apply Blk.set4_3 | (apply Blk.off; (first | assumption | omega | (simp; omega))) | fail)) hb; (try clear cK0_0 cK0_1 cK0_2 cK0_3 fK0 lK0 nK0 mK0); obtain ⟨cK0_0, cK0_1, cK0_2, cK0_3, fK0, lK0, nK0, mK0⟩ := Blk.all4 K0) | (go_at_call 13; with_reducible refine (ra.out _).mono ?_; rintro e w' ⟨rfl, hb⟩; have HB := bl_step (w := w) (by repeat (with_reducible first | exact HB | (refine bl_set ?_ (by omega)) | apply bl_alloc | apply bl_drew | apply bl_drewN | fail)) hb; have hzB := HB.size; have K0 := Blk.on (by first | exact K0 | exact K0 #[] | exact K0 (.cells #[] 0) #[]) (by repeat (with_reducible first | exact K0 | exact K0 _ | exact K0 _ _ | apply Blk.alloc | apply Blk.drew | apply Blk.drewN | apply Blk.set4_0 | apply Blk.set4_1 | apply Blk.set4_2 | apply Blk.set4_3 | (apply Blk.off; (first | assumption | omega | (simp; omega))) | fail)) hb; (try clear cK0_0 cK0_1 cK0_2 cK0_3 fK0 lK0 nK0 mK0); obtain ⟨cK0_0, cK0_1, cK0_2, cK0_3, fK0, lK0, nK0, mK0⟩ := Blk.all4 K0) | (go_at_call 14; with_reducible refine (enum_c _ _).mono ?_; rintro e w' ⟨rfl, rfl⟩) | (go_at_call 15; with_reducible refine (sm.out _).mono ?_; rintro e w' ⟨rfl, hb⟩; have HB := bl_step (w := w) (by repeat (with_reducible first | exact HB | (refine bl_set ?_ (by omega)) | apply bl_alloc | apply bl_drew | apply bl_drewN | fail)) hb; have hzB := HB.size; have K0 := Blk.on (by first | exact K0 | exact K0 #[] | exact K0 (.cells #[] 0) #[]) (by repeat (with_reducible first | exact K0 | exact K0 _ | exact K0 _ _ | apply Blk.alloc | apply Blk.drew | apply Blk.drewN | apply Blk.set4_0 | apply Blk.set4_1 | apply Blk.set4_2 | apply Blk.set4_3 | (apply Blk.off; (first | assumption | omega | (simp; omega))) | fail)) hb; (try clear cK0_0 cK0_1 cK0_2 cK0_3 fK0 lK0 nK0 mK0); obtain ⟨cK0_0, cK0_1, cK0_2, cK0_3, fK0, lK0, nK0, mK0⟩ := Blk.all4 K0) | (go_at_call 16; with_reducible refine (spoilo_none _).mono ?_; rintro e w' ⟨rfl, rfl⟩) | (go_at_call 17; with_reducible refine (awake_c _).mono ?_; rintro e w' ⟨rfl, hb⟩; have HB := bl_step (w := w) (by repeat (with_reducible first | exact HB | (refine bl_set ?_ (by omega)) | apply bl_alloc | apply bl_drew | apply bl_drewN | fail)) hb; have hzB := HB.size; have K0 := Blk.on (by first | exact K0 | exact K0 #[] | exact K0 (.cells #[] 0) #[]) (by repeat (with_reducible first | exact K0 | exact K0 _ | exact K0 _ _ | apply Blk.alloc | apply Blk.drew | apply Blk.drewN | apply Blk.set4_0 | apply Blk.set4_1 | apply Blk.set4_2 | apply Blk.set4_3 | (apply Blk.off; (first | assumption | omega | (simp; omega))) | fail)) hb; (try clear cK0_0 cK0_1 cK0_2 cK0_3 fK0 lK0 nK0 mK0); obtain ⟨cK0_0, cK0_1, cK0_2, cK0_3, fK0, lK0, nK0, mK0⟩ := Blk.all4 K0) | fail)
  go_ret
  exact ⟨rfl, HB⟩
set_option maxRecDepth 100000 in
set_option maxHeartbeats 6400000 in
theorem places_yes (f : ByteArray) (q s z m : Int) (w : World) (hf : f.size = 768) (hm : recMay q s z m = true) :
    Calls Try.prog 3 #[.string f, .agg #[.int .i64 q, .int .i64 s, .int .i64 z, .int .i64 m]] w fun e w' => e = .returned (.bool true) ∧ Below w.heap.size w w' := by
  have HB := Below.refl w.heap.size w
  have K0 := Blk.new w #[.int .i64 q, .int .i64 s, .int .i64 z, .int .i64 m] 23
  have nx := Lib.hid (fun W : World => next_c f W (by omega))
  have rn := Lib.hid (fun W : World => rnext_c f W (by omega))
  obtain ⟨a, b, hab⟩ := next_two f
  rw [hab] at nx rn
  have ap := Lib.hid (fun W : World => append_yes f q s z m W hf hm)
  have ra := Lib.hid (fun W : World => rappend_yes f q s z m W hf hm)
  unfold appY at ap ra
  obtain ⟨hl1, hl2⟩ := app_len f q s z m
  have ML := Lib.hid (app_may f q s z m)
  obtain ⟨n, hn⟩ : ∃ n, (appL f q s z m).length = n := ⟨_, rfl⟩
  rw [hn] at ap ra hl1 hl2
  have HN := Lib.hid hn
  clear hab hf hm hn
  generalize appL f q s z m = OL at *
  go_enter Try.func3, Try.ntmps3
  go_upto_region 3 with (first | (go_at_call 10; with_reducible refine (nx.out _).mono ?_; rintro e w' ⟨rfl, hb⟩; have HB := bl_step (w := w) (by repeat (with_reducible first | exact HB | (refine bl_set ?_ (by omega)) | apply bl_alloc | apply bl_drew | apply bl_drewN | fail)) hb; have hzB := HB.size; have K0 := Blk.on (by first | exact K0 | exact K0 #[] | exact K0 (.cells #[] 0) #[]) (by repeat (with_reducible first | exact K0 | exact K0 _ | exact K0 _ _ | apply Blk.alloc | apply Blk.drew | apply Blk.drewN | apply Blk.set4_0 | apply Blk.set4_1 | apply Blk.set4_2 | apply Blk.set4_3 | (apply Blk.off; (first | assumption | omega | (simp; omega))) | fail)) hb; (try clear cK0_0 cK0_1 cK0_2 cK0_3 fK0 lK0 nK0 mK0); obtain ⟨cK0_0, cK0_1, cK0_2, cK0_3, fK0, lK0, nK0, mK0⟩ := Blk.all4 K0) | (go_at_call 11; with_reducible refine (rn.out _).mono ?_; rintro e w' ⟨rfl, hb⟩; have HB := bl_step (w := w) (by repeat (with_reducible first | exact HB | (refine bl_set ?_ (by omega)) | apply bl_alloc | apply bl_drew | apply bl_drewN | fail)) hb; have hzB := HB.size; have K0 := Blk.on (by first | exact K0 | exact K0 #[] | exact K0 (.cells #[] 0) #[]) (by repeat (with_reducible first | exact K0 | exact K0 _ | exact K0 _ _ | apply Blk.alloc | apply Blk.drew | apply Blk.drewN | apply Blk.set4_0 | apply Blk.set4_1 | apply Blk.set4_2 | apply Blk.set4_3 | (apply Blk.off; (first | assumption | omega | (simp; omega))) | fail)) hb; (try clear cK0_0 cK0_1 cK0_2 cK0_3 fK0 lK0 nK0 mK0); obtain ⟨cK0_0, cK0_1, cK0_2, cK0_3, fK0, lK0, nK0, mK0⟩ := Blk.all4 K0) | fail)
  go_upto_region 4 with (first | (go_at_call 12; (with_reducible refine (ap.out _).mono ?_); rintro e w3 ⟨A, c, rfl, O3, hb3⟩) | fail)
  have HB3 := bl_step HB hb3
  have R0 := Lib.hid (lies_own encOp_len O3 HN.out)
  obtain ⟨g, rfl, hg0, hnc, hcm⟩ := own_open O3 (by omega)
  have hgw : w.heap.size ≤ g := Nat.le_trans hzB hg0
  have O3h := Lib.hid O3
  have d0 := cb hb3 cK0_0
  have d1 := cb hb3 cK0_1
  have d2 := cb hb3 cK0_2
  have d3 := cb hb3 cK0_3
  clear O3 hb3 HB hzB K0 cK0_0 cK0_1 cK0_2 cK0_3 fK0 lK0 nK0 mK0 hb
  go_upto_region 5 with (first | (go_at_call 13; (with_reducible refine (ra.out _).mono ?_); rintro e w4 ⟨B, d, rfl, O4, hb4⟩) | fail)
  have HB4 := bl_step HB3 hb4
  have O5 := Lib.hid (own_below O3h.out hb4)
  have RA := Lib.hid (row_of (R0.out.below hb4) (by rw [HN.out]; omega) ML.out)
  have RB := Lib.hid (row_of (lies_own encOp_len O4 HN.out) (by rw [HN.out]; omega) ML.out)
  have sm := Lib.hid (same_c (some ⟨g, 0, none⟩) B c d n n OL OL w4 RA.out RB.out HN.out HN.out)
  rw [show decide (OL = OL) = true by simp] at sm
  clear O4 hb4 HB3 d0 d1 d2 d3 R0 O3h RA RB
  go_wp2_with (first | (go_at_call 14; with_reducible refine (enum_c _ _).mono ?_; rintro e w' ⟨rfl, rfl⟩) | (go_at_call 15; (with_reducible refine sm.out.mono ?_); rintro e w5 ⟨rfl, hb5⟩) | (go_at_call 16; (with_reducible refine (spoilo_c g c n _ OL _ (own_below O5.out hb5) HN.out hnc hcm).mono ?_); rintro e w6 ⟨rfl, hg6⟩) | (go_at_call 17; (with_reducible refine (awake_c _).mono ?_); rintro e w7 ⟨rfl, hb7⟩) | fail)
  go_ret
  exact ⟨rfl, bl_step (bl_grown (bl_step HB4 hb5) hg6 (fun q hq => by injection hq with hq; omega)) hb7⟩
theorem places_w (f : ByteArray) (q s z m : Int) (w : World) (h : f.size ≤ 9223372036854775807) :
    Calls Try.prog 3 #[.string f, .agg #[.int .i64 q, .int .i64 s, .int .i64 z, .int .i64 m]] w fun e w' => e = .returned (.bool true) ∧ Below w.heap.size w w' := by
  by_cases hh : f.size = 768 ∧ recMay q s z m = true
  · exact places_yes f q s z m w hh.1 hh.2
  · exact places_no f q s z m w h hh
end Go.Proofs.Ytimnhdmpfndeaaa.Pl
