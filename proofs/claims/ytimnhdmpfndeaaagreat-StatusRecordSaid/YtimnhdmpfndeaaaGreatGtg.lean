/- Layer 19: StatusRecord: the walk. -/
import Derived.Test.YtimnhdmpfndeaaaGreatGte
namespace Go.Proofs.YtimnhdmpfndeaaaGreat.Dv
open Go.RowKit Go.Proofs.YtimnhdmpfndeaaaGreat.Kt Go.Proofs.YtimnhdmpfndeaaaGreat.Lw Go.Proofs.YtimnhdmpfndeaaaGreat.St Go.Proofs.YtimnhdmpfndeaaaGreat.Nm Go.Proofs.YtimnhdmpfndeaaaGreat.Es Go.Proofs.YtimnhdmpfndeaaaGreat.By Go.Proofs.YtimnhdmpfndeaaaGreat.En Go.Proofs.YtimnhdmpfndeaaaGreat.Jr Go.Proofs.YtimnhdmpfndeaaaGreat.Im Go.Proofs.YtimnhdmpfndeaaaGreat.Sl Go.Proofs.YtimnhdmpfndeaaaGreat.Gr Go.Proofs.YtimnhdmpfndeaaaGreat.Ops Go.Proofs.YtimnhdmpfndeaaaGreat.Ch Go.Proofs.YtimnhdmpfndeaaaGreat.Fl Go.Proofs.YtimnhdmpfndeaaaGreat.Pl
set_option linter.unusedVariables false
set_option linter.unusedSimpArgs false
attribute [local irreducible] gotB goodB Cr.crcB nQ nS nZ nM placeB wholeB devMay
attribute [local go_sem high] eqAns
theorem umod288 (x : Int) : ∃ k : Nat, wrap64 (Int.tmod (IntKind.u64.wrap x) 288) = (k : Int) ∧ (k : Int) < 288 := umod_nat x 288 (by decide) (by decide)
/-- nothing is committed. -/
def recFirst (E G D1 : Int) : Prop := (E = 1900) ∨ (E = 0 ∧ (G = 801 ∨ G = 900) ∧ D1 = 3)
set_option maxRecDepth 100000 in
set_option maxHeartbeats 12800000 in
theorem srecord_no (f : ByteArray) (x y E G D0 D1 D2 D3 D4 T0 T1 T2 r0 r1 r2 r3 : Int) (k dn : Nat) (w : World) (hk : wrap64 (Int.tmod (IntKind.u64.wrap y) 288) = (k : Int)) (hk2 : (k : Int) < 288)
    (hE : recFirst E G D1)
    (hg : ∀ W : World, Calls Tryz.prog 7 #[.string f, .agg #[.int .i64 4, .int .i64 0, .int .i64 0, .int .i64 (1 + (k : Int)), .int .i64 (x % 2), .slice none 0 0]] W fun e w' => (∃ A2 c2, e = .returned (.tuple #[.agg #[.int .i64 D0, .int .i64 D1, .int .i64 D2, .int .i64 D3, .int .i64 D4, .slice A2 dn c2], .agg #[.int .i64 T0, .int .i64 T1, .int .i64 T2], .int .i64 E])) ∧ Below W.heap.size W w')
    (hr : ∀ W : World, Calls Tryz.prog 13 #[.string f, .int .i64 (x % 2), .int .i64 (1 + (k : Int))] W fun e w' => e = .returned (.tuple #[.agg #[.int .i64 r0, .int .i64 r1, .int .i64 r2, .int .i64 r3], .int .i64 G]) ∧ Below W.heap.size W w') :
    Calls Tryz.prog 5 #[.string f, .int .i64 x, .int .i64 y] w fun e w' => e = .returned (.bool true) ∧ Below w.heap.size w w' := by
  have HB := Below.refl w.heap.size w
  have g1 := Lib.hid hg
  have rc := Lib.hid hr
  have hs := Bt.and1 x
  generalize x % 2 = s at *
  clear hg hr
  rcases hE with rfl | ⟨rfl, rfl | rfl, rfl⟩
  all_goals (go_enter Tryz.func5, Tryz.ntmps5; go_wp2_with (first | (go_at_call 12; with_reducible refine (awake19_c _).mono ?_; rintro e w1 ⟨rfl, hb⟩; have HB := bl_step (w := w) (by repeat (with_reducible first | exact HB | (refine bl_set ?_ (by omega)) | apply bl_alloc | apply bl_drew | apply bl_drewN | fail)) hb; have hzB := HB.size; have K1 := fun cs => Blk.new w1 cs 24) | (go_at_call 7; (with_reducible refine (g1.out _).mono ?_); rintro e w2 ⟨⟨A2, c2, rfl⟩, hb⟩; have HB := bl_step (w := w) (by repeat (with_reducible first | exact HB | (refine bl_set ?_ (by omega)) | apply bl_alloc | apply bl_drew | apply bl_drewN | fail)) hb; have hzB := HB.size; have K1 := Blk.on (by first | exact K1 | exact K1 #[] | exact K1 (.cells #[] 0) #[] | exact K1 #[] #[]) (by repeat (with_reducible first | exact K1 | exact K1 _ | exact K1 _ _ | apply Blk.alloc | apply Blk.drew | apply Blk.drewN | apply Blk.set6_0 | apply Blk.set6_1 | apply Blk.set6_2 | apply Blk.set6_3 | apply Blk.set6_4 | apply Blk.set6_5 | (apply Blk.off; (first | assumption | omega | (simp; omega))) | fail)) hb; (try clear cK1_0 cK1_1 cK1_2 cK1_3 cK1_4 cK1_5 fK1 lK1 nK1 mK1); obtain ⟨cK1_0, cK1_1, cK1_2, cK1_3, cK1_4, cK1_5, fK1, lK1, nK1, mK1⟩ := Blk.all6 K1; have K2 := fun cs => Blk.new w2 cs 24; have K3 := fun o cs => Blk.new1 w2 o cs 27) | (go_at_call 13; (with_reducible refine (rc.out _).mono ?_); rintro e w3 ⟨rfl, hb⟩; have HB := bl_step (w := w) (by repeat (with_reducible first | exact HB | (refine bl_set ?_ (by omega)) | apply bl_alloc | apply bl_drew | apply bl_drewN | fail)) hb; have hzB := HB.size; have K1 := Blk.on (by first | exact K1 | exact K1 #[] | exact K1 (.cells #[] 0) #[] | exact K1 #[] #[]) (by repeat (with_reducible first | exact K1 | exact K1 _ | exact K1 _ _ | apply Blk.alloc | apply Blk.drew | apply Blk.drewN | apply Blk.set6_0 | apply Blk.set6_1 | apply Blk.set6_2 | apply Blk.set6_3 | apply Blk.set6_4 | apply Blk.set6_5 | (apply Blk.off; (first | assumption | omega | (simp; omega))) | fail)) hb; (try clear cK1_0 cK1_1 cK1_2 cK1_3 cK1_4 cK1_5 fK1 lK1 nK1 mK1); obtain ⟨cK1_0, cK1_1, cK1_2, cK1_3, cK1_4, cK1_5, fK1, lK1, nK1, mK1⟩ := Blk.all6 K1; have K2 := Blk.on (by first | exact K2 | exact K2 #[] | exact K2 (.cells #[] 0) #[] | exact K2 #[] #[]) (by repeat (with_reducible first | exact K2 | exact K2 _ | exact K2 _ _ | apply Blk.alloc | apply Blk.drew | apply Blk.drewN | apply Blk.set6_0 | apply Blk.set6_1 | apply Blk.set6_2 | apply Blk.set6_3 | apply Blk.set6_4 | apply Blk.set6_5 | (apply Blk.off; (first | assumption | omega | (simp; omega))) | fail)) hb; (try clear cK2_0 cK2_1 cK2_2 cK2_3 cK2_4 cK2_5 fK2 lK2 nK2 mK2); obtain ⟨cK2_0, cK2_1, cK2_2, cK2_3, cK2_4, cK2_5, fK2, lK2, nK2, mK2⟩ := Blk.all6 K2) | (go_at_call 10; with_reducible refine (enum_c _ _).mono ?_; rintro e w' ⟨rfl, rfl⟩) | fail); go_ret; exact ⟨rfl, (by repeat (with_reducible first | exact Below.refl _ _ | assumption | (refine bl_set ?_ (by omega)) | apply bl_alloc | apply bl_drewN | apply bl_drew | (refine bl_step ?_ (by assumption)) | fail))⟩)
set_option maxRecDepth 100000 in
set_option maxHeartbeats 12800000 in
theorem srecord_yes (f : ByteArray) (x y T0 T1 T2 D2 D3 D4 r0 r1 r2 r3 : Int) (k p : Nat) (ys : List OpV) (w : World) (hk : wrap64 (Int.tmod (IntKind.u64.wrap y) 288) = (k : Int)) (hk2 : (k : Int) < 288) (hp : ys.length = p) (hm : MayL ys) (hp7 : p ≤ 7)
    (hg : ∀ W : World, Calls Tryz.prog 7 #[.string f, .agg #[.int .i64 4, .int .i64 0, .int .i64 0, .int .i64 (1 + (k : Int)), .int .i64 (x % 2), .slice none 0 0]] W fun e w' => (∃ A2 c2, e = .returned (.tuple #[.agg #[.int .i64 5, .int .i64 0, .int .i64 D2, .int .i64 D3, .int .i64 D4, .slice A2 p c2], .agg #[.int .i64 T0, .int .i64 T1, .int .i64 T2], .int .i64 0]) ∧ Row w' A2 ys) ∧ Below W.heap.size W w')
    (hr : ∀ W : World, Calls Tryz.prog 13 #[.string f, .int .i64 (x % 2), .int .i64 (1 + (k : Int))] W fun e w' => e = .returned (.tuple #[.agg #[.int .i64 r0, .int .i64 r1, .int .i64 r2, .int .i64 r3], .int .i64 0]) ∧ Below W.heap.size W w')
    (ha : ∀ W : World, Calls Tryz.prog 14 #[.string f, .agg #[.int .i64 r0, .int .i64 r1, .int .i64 r2, .int .i64 r3]] W fun e w' => (∃ A c, e = .returned (.tuple #[.slice A p c, .int .i64 0]) ∧ Row w' A ys) ∧ Below W.heap.size W w') :
    Calls Tryz.prog 5 #[.string f, .int .i64 x, .int .i64 y] w fun e w' => e = .returned (.bool true) ∧ Below w.heap.size w w' := by
  have HB := Below.refl w.heap.size w
  have g1 := Lib.hid hg
  have rc := Lib.hid hr
  have ap := Lib.hid ha
  have hs := Bt.and1 x
  have HP := Lib.hid hp
  have sm := Lib.hid (fun (W : World) (A B : Option Addr) (c d : Nat) (h1 : Row W A ys) (h2 : Row W B ys) => same_c A B c d p p ys ys W h1 h2 hp hp)
  rw [show decide (ys = ys) = true by simp] at sm
  generalize x % 2 = s at *
  clear hg hr ha hp hm
  go_enter Tryz.func5, Tryz.ntmps5
  go_upto_region 8 with (first | (go_at_call 12; with_reducible refine (awake19_c _).mono ?_; rintro e w1 ⟨rfl, hb⟩; have HB := bl_step (w := w) (by repeat (with_reducible first | exact HB | (refine bl_set ?_ (by omega)) | apply bl_alloc | apply bl_drew | apply bl_drewN | fail)) hb; have hzB := HB.size; have K1 := fun cs => Blk.new w1 cs 24) | (go_at_call 7; (with_reducible refine (g1.out _).mono ?_); rintro e w2 ⟨⟨A2, c2, rfl, R2⟩, hb⟩; have HB := bl_step (w := w) (by repeat (with_reducible first | exact HB | (refine bl_set ?_ (by omega)) | apply bl_alloc | apply bl_drew | apply bl_drewN | fail)) hb; have hzB := HB.size; have K1 := Blk.on (by first | exact K1 | exact K1 #[] | exact K1 (.cells #[] 0) #[] | exact K1 #[] #[]) (by repeat (with_reducible first | exact K1 | exact K1 _ | exact K1 _ _ | apply Blk.alloc | apply Blk.drew | apply Blk.drewN | apply Blk.set6_0 | apply Blk.set6_1 | apply Blk.set6_2 | apply Blk.set6_3 | apply Blk.set6_4 | apply Blk.set6_5 | (apply Blk.off; (first | assumption | omega | (simp; omega))) | fail)) hb; (try clear cK1_0 cK1_1 cK1_2 cK1_3 cK1_4 cK1_5 fK1 lK1 nK1 mK1); obtain ⟨cK1_0, cK1_1, cK1_2, cK1_3, cK1_4, cK1_5, fK1, lK1, nK1, mK1⟩ := Blk.all6 K1; have R2 := Lib.hid R2; have K2 := fun cs => Blk.new w2 cs 24; have K3 := fun o cs => Blk.new1 w2 o cs 27) | (go_at_call 13; (with_reducible refine (rc.out _).mono ?_); rintro e w3 ⟨rfl, hb⟩; have R2 := Lib.hid ((R2.out.below (bl_alloc (bl_alloc (Below.refl _ _) _) _)).below hb); have HB := bl_step (w := w) (by repeat (with_reducible first | exact HB | (refine bl_set ?_ (by omega)) | apply bl_alloc | apply bl_drew | apply bl_drewN | fail)) hb; have hzB := HB.size; have K1 := Blk.on (by first | exact K1 | exact K1 #[] | exact K1 (.cells #[] 0) #[] | exact K1 #[] #[]) (by repeat (with_reducible first | exact K1 | exact K1 _ | exact K1 _ _ | apply Blk.alloc | apply Blk.drew | apply Blk.drewN | apply Blk.set6_0 | apply Blk.set6_1 | apply Blk.set6_2 | apply Blk.set6_3 | apply Blk.set6_4 | apply Blk.set6_5 | (apply Blk.off; (first | assumption | omega | (simp; omega))) | fail)) hb; (try clear cK1_0 cK1_1 cK1_2 cK1_3 cK1_4 cK1_5 fK1 lK1 nK1 mK1); obtain ⟨cK1_0, cK1_1, cK1_2, cK1_3, cK1_4, cK1_5, fK1, lK1, nK1, mK1⟩ := Blk.all6 K1; have K2 := Blk.on (by first | exact K2 | exact K2 #[] | exact K2 (.cells #[] 0) #[] | exact K2 #[] #[]) (by repeat (with_reducible first | exact K2 | exact K2 _ | exact K2 _ _ | apply Blk.alloc | apply Blk.drew | apply Blk.drewN | apply Blk.set6_0 | apply Blk.set6_1 | apply Blk.set6_2 | apply Blk.set6_3 | apply Blk.set6_4 | apply Blk.set6_5 | (apply Blk.off; (first | assumption | omega | (simp; omega))) | fail)) hb; (try clear cK2_0 cK2_1 cK2_2 cK2_3 cK2_4 cK2_5 fK2 lK2 nK2 mK2); obtain ⟨cK2_0, cK2_1, cK2_2, cK2_3, cK2_4, cK2_5, fK2, lK2, nK2, mK2⟩ := Blk.all6 K2; have K4 := fun cs => Blk.new w3 cs 40) | (go_at_call 10; with_reducible refine (enum_c _ _).mono ?_; rintro e w' ⟨rfl, rfl⟩) | fail)
  go_wp2_with (first | (go_at_call 14; (with_reducible refine (ap.out _).mono ?_); rintro e w4 ⟨⟨A4, c4, rfl, R4⟩, hb⟩; have R2 := Lib.hid ((R2.out.below (bl_alloc (Below.refl _ _) _)).below hb); have R4 := Lib.hid R4; have HB := bl_step (w := w) (by repeat (with_reducible first | exact HB | (refine bl_set ?_ (by omega)) | apply bl_alloc | apply bl_drew | apply bl_drewN | fail)) hb; have hzB := HB.size; have K2 := Blk.on (by first | exact K2 | exact K2 #[] | exact K2 (.cells #[] 0) #[] | exact K2 #[] #[]) (by repeat (with_reducible first | exact K2 | exact K2 _ | exact K2 _ _ | apply Blk.alloc | apply Blk.drew | apply Blk.drewN | apply Blk.set6_0 | apply Blk.set6_1 | apply Blk.set6_2 | apply Blk.set6_3 | apply Blk.set6_4 | apply Blk.set6_5 | (apply Blk.off; (first | assumption | omega | (simp; omega))) | fail)) hb; (try clear cK2_0 cK2_1 cK2_2 cK2_3 cK2_4 cK2_5 fK2 lK2 nK2 mK2); obtain ⟨cK2_0, cK2_1, cK2_2, cK2_3, cK2_4, cK2_5, fK2, lK2, nK2, mK2⟩ := Blk.all6 K2) | (go_at_call 15; (with_reducible refine (sm.out _ _ _ _ _ R2.out R4.out).mono ?_); rintro e w5 ⟨rfl, hb⟩; have HB := bl_step (w := w) (by repeat (with_reducible first | exact HB | (refine bl_set ?_ (by omega)) | apply bl_alloc | apply bl_drew | apply bl_drewN | fail)) hb; have hzB := HB.size; have K2 := Blk.on (by first | exact K2 | exact K2 #[] | exact K2 (.cells #[] 0) #[] | exact K2 #[] #[]) (by repeat (with_reducible first | exact K2 | exact K2 _ | exact K2 _ _ | apply Blk.alloc | apply Blk.drew | apply Blk.drewN | apply Blk.set6_0 | apply Blk.set6_1 | apply Blk.set6_2 | apply Blk.set6_3 | apply Blk.set6_4 | apply Blk.set6_5 | (apply Blk.off; (first | assumption | omega | (simp; omega))) | fail)) hb; (try clear cK2_0 cK2_1 cK2_2 cK2_3 cK2_4 cK2_5 fK2 lK2 nK2 mK2); obtain ⟨cK2_0, cK2_1, cK2_2, cK2_3, cK2_4, cK2_5, fK2, lK2, nK2, mK2⟩ := Blk.all6 K2) | fail)
  go_ret
  exact ⟨rfl, (by repeat (with_reducible first | exact Below.refl _ _ | assumption | (refine bl_set ?_ (by omega)) | apply bl_alloc | apply bl_drewN | apply bl_drew | (refine bl_step ?_ (by assumption)) | fail))⟩
theorem srecord_w (f : ByteArray) (x y : Int) (w : World) (h : f.size ≤ 9223372036854775807) :
    Calls Tryz.prog 5 #[.string f, .int .i64 x, .int .i64 y] w fun e w' => e = .returned (.bool true) ∧ Below w.heap.size w w' := by
  obtain ⟨k, hk, hk2⟩ := umod288 y
  have G := fun (W : World) => get_c f ⟨4, 0, 0, 1 + (k : Int), x % 2, []⟩ none 0 0 W h Row.none rfl
  have hr := fun W : World => rrec_c f (x % 2) (1 + (k : Int)) W h
  have hm : (⟨4, 0, 0, 1 + (k : Int), x % 2, []⟩ : DS).may = true := may_mk (by simp) (by simp) (by simp) (by simp only; omega) (by simp only; omega) (by simp) (fun o h => by simp at h)
  by_cases hf : f.size = 768
  · have hb : bothB f ⟨4, 0, 0, 1 + (k : Int), x % 2, []⟩ = true := by simp [bothB, hf, hm]
    rw [(get_yes hb).1, (get_yes hb).2] at G
    have hd : statD f ⟨4, 0, 0, 1 + (k : Int), x % 2, []⟩ = commitD f ⟨4, 0, 0, 1 + (k : Int), x % 2, []⟩ := rfl
    rw [hd] at G
    rcases rec_e f (x % 2) (1 + (k : Int)) with hr0 | hr0
    · obtain ⟨_, hv, hmay, _⟩ := rec_yes hr0
      have hc : commitD f ⟨4, 0, 0, 1 + (k : Int), x % 2, []⟩ = ⟨5, 0, 0, 1 + (k : Int), x % 2, commitL f ⟨4, 0, 0, 1 + (k : Int), x % 2, []⟩⟩ := by simp [commitD, hr0]
      rw [hc] at G
      rw [hv, hr0] at hr
      refine srecord_yes f x y 0 (min ((commitL f ⟨4, 0, 0, 1 + (k : Int), x % 2, []⟩).length : Int) 255) 5 0 (1 + (k : Int)) (x % 2) _ _ _ _ k _ (commitL f ⟨4, 0, 0, 1 + (k : Int), x % 2, []⟩) w hk hk2 rfl (app_may f _ _ _ _) (app_len f _ _ _ _).2 (fun W => (G W).mono ?_) hr (fun W => (rappend_yes f _ _ _ _ W hf hmay).mono ?_)
      · rintro e w' ⟨⟨A2, n2, c2, k1, k2, k3⟩, k4⟩
        obtain rfl := k2
        exact ⟨⟨A2, c2, k1, own_row k3⟩, k4⟩
      · rintro e w' ⟨A, c, k1, k2, k3⟩
        exact ⟨⟨A, c, k1, row_of (lies_own encOp_len k2 rfl) (Nat.le_trans (app_len f _ _ _ _).2 (by decide)) (app_may f _ _ _ _)⟩, k3⟩
    · have hne : ¬ recE f (x % 2) (1 + (k : Int)) = 0 := by omega
      have hc : commitD f ⟨4, 0, 0, 1 + (k : Int), x % 2, []⟩ = DS.fail 3 := by simp [commitD, hne]
      rw [hc] at G
      rw [rec_zero hne] at hr
      refine srecord_no f x y 0 _ 7 3 0 0 0 3 0 7 0 0 0 0 k 0 w hk hk2 (.inr ⟨rfl, hr0, rfl⟩) (fun W => (G W).mono ?_) hr
      rintro e w' ⟨⟨A2, n2, c2, k1, k2, k3⟩, k4⟩
      obtain rfl : n2 = 0 := by rw [← k2]; rfl
      exact ⟨⟨A2, c2, k1⟩, k4⟩
  · have hb : bothB f ⟨4, 0, 0, 1 + (k : Int), x % 2, []⟩ = false := by simp [bothB, hf]
    rw [(get_no hb).1, (get_no hb).2] at G
    obtain ⟨a, b, c, d, hv⟩ := rec_four f (x % 2) (1 + (k : Int))
    rw [hv] at hr
    refine srecord_no f x y 1900 _ 0 0 0 0 0 0 0 0 a b c d k 0 w hk hk2 (.inl rfl) (fun W => (G W).mono ?_) hr
    rintro e w' ⟨⟨A2, n2, c2, k1, k2, k3⟩, k4⟩
    obtain rfl : n2 = 0 := by rw [← k2]; rfl
    exact ⟨⟨A2, c2, k1⟩, k4⟩
end Go.Proofs.YtimnhdmpfndeaaaGreat.Dv
