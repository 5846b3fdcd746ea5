/- Layer 19: StatusTwice, StatusForms: the walks. -/
import Derived.Test.YtimnhdmpfndeaaaGtd
namespace Go.Proofs.Ytimnhdmpfndeaaa.Dv
open Go.RowKit Go.Proofs.Ytimnhdmpfndeaaa.Kt Go.Proofs.Ytimnhdmpfndeaaa.Lw Go.Proofs.Ytimnhdmpfndeaaa.St Go.Proofs.Ytimnhdmpfndeaaa.Nm Go.Proofs.Ytimnhdmpfndeaaa.Es Go.Proofs.Ytimnhdmpfndeaaa.By Go.Proofs.Ytimnhdmpfndeaaa.En Go.Proofs.Ytimnhdmpfndeaaa.Jr Go.Proofs.Ytimnhdmpfndeaaa.Im Go.Proofs.Ytimnhdmpfndeaaa.Sl Go.Proofs.Ytimnhdmpfndeaaa.Gr Go.Proofs.Ytimnhdmpfndeaaa.Ops Go.Proofs.Ytimnhdmpfndeaaa.Ch Go.Proofs.Ytimnhdmpfndeaaa.Fl Go.Proofs.Ytimnhdmpfndeaaa.Pl
set_option linter.unusedVariables false
set_option linter.unusedSimpArgs false
attribute [local irreducible] gotB goodB Cr.crcB nQ nS nZ nM placeB wholeB
attribute [local go_sem high] eqAns
theorem fld5 (W : World) (v0 v1 v2 v3 v4 : Int) (A : Option Addr) (n c : Nat) : (Instr.field 61 (.agg #[.int .i64 v0, .int .i64 v1, .int .i64 v2, .int .i64 v3, .int .i64 v4, .slice A n c]) 5).run Try.prog W = .ok (.slice A n c) W := by kernel_rfl
attribute [local go_sem high] fld5
theorem own_row' {w : World} {base : Nat} {A : Option Addr} {xs : List OpV} (h : Own w base A xs) : Row w A xs := h.1
theorem may_mk2 {d : DS} (h1 : 0 ≤ d.st ∧ d.st ≤ 7) (h2 : 0 ≤ d.su ∧ d.su ≤ 6) (h3 : 0 ≤ d.nx ∧ d.nx ≤ 16) (h4 : 0 ≤ d.go ∧ d.go ≤ 288) (h5 : 0 ≤ d.sl ∧ d.sl ≤ 1) (h6 : d.ops.length ≤ 768) (h7 : ∀ o ∈ d.ops, opMay o = true) : d.may = true := by
  have ha : d.ops.any (fun o => !opMay o) = false := by
    rw [List.any_eq_false]
    intro o ho
    simp [h7 o ho]
  simp only [DS.may, devMay, rngB, ha]
  simp
  omega
theorem fail_may {k : Int} (h : 0 ≤ k ∧ k ≤ 6) : (DS.fail k).may = true := may_mk2 (by simp [DS.fail]) h (by simp [DS.fail]) (by simp [DS.fail]) (by simp [DS.fail]) (by simp [DS.fail]) (fun o h => by simp [DS.fail] at h)
theorem stat_may {f : ByteArray} {d : DS} (h : d.may = true) : (statD f d).may = true := by
  obtain ⟨n1, n2, n3, n4, n5⟩ := may_nums h
  have hl := may_len h
  have ho := may_ops h
  unfold statD
  by_cases h1 : d.st = 1
  · rw [if_pos h1]
    refine may_mk2 ?_ n2 n3 n4 n5 hl ho
    simp only
    split <;> omega
  · rw [if_neg h1]
    by_cases h4 : d.st = 4
    · rw [if_pos h4]
      unfold commitD
      by_cases hr : recE f d.sl d.go = 0
      · rw [if_pos hr]
        exact may_mk2 (by simp) n2 n3 n4 n5 (Nat.le_trans (app_len f _ _ _ _).2 (by decide)) (fun o h => (app_may f _ _ _ _ o h).1)
      · rw [if_neg hr]
        exact fail_may (by decide)
    · rw [if_neg h4]
      exact h
theorem stat_two {f : ByteArray} {d : DS} : statD f (statD f d) = statD f d := by
  have key : ∀ e : DS, ¬ e.st = 1 → ¬ e.st = 4 → statD f e = e := fun e h1 h4 => by unfold statD; rw [if_neg h1, if_neg h4]
  by_cases h1 : d.st = 1
  · have e : statD f d = ⟨if d.ops = [] then 3 else 2, d.su, d.nx, d.go, d.sl, d.ops⟩ := by unfold statD; rw [if_pos h1]
    rw [e]
    refine key _ ?_ ?_
    · simp only
      split <;> omega
    · simp only
      split <;> omega
  · by_cases h4 : d.st = 4
    · have e : statD f d = commitD f d := by unfold statD; rw [if_neg h1, if_pos h4]
      rw [e]
      unfold commitD
      by_cases hr : recE f d.sl d.go = 0
      · rw [if_pos hr]
        exact key _ (by simp) (by simp)
      · rw [if_neg hr]
        exact key _ (by simp [DS.fail]) (by simp [DS.fail])
    · have e : statD f d = d := key d h1 h4
      rw [e, e]
set_option maxRecDepth 100000 in
set_option maxHeartbeats 12800000 in
theorem twice_no (f : ByteArray) (s st nx g sl : Int) (A : Option Addr) (c n : Nat) (xs : List OpV) (w : World) (hl : Row w A xs)
    (hg : ∀ (W : World) (A' : Option Addr) (c' : Nat), Row W A' xs → Calls Try.prog 29 #[.string f, .agg #[.int .i64 s, .int .i64 st, .int .i64 nx, .int .i64 g, .int .i64 sl, .slice A' n c']] W fun e w' => (∃ A2 c2, e = .returned (.tuple #[.agg #[.int .i64 0, .int .i64 0, .int .i64 0, .int .i64 0, .int .i64 0, .slice A2 0 c2], .agg #[.int .i64 0, .int .i64 0, .int .i64 0], .int .i64 1900])) ∧ Below W.heap.size W w')
    (hg2 : ∀ (W : World) (A' : Option Addr) (c' : Nat), Calls Try.prog 29 #[.string f, .agg #[.int .i64 0, .int .i64 0, .int .i64 0, .int .i64 0, .int .i64 0, .slice A' 0 c']] W fun e w' => (∃ (G0 G1 G2 G3 G4 U0 U1 U2 E2 : Int) (gn : Nat) (A2 : Option Addr) (c2 : Nat), e = .returned (.tuple #[.agg #[.int .i64 G0, .int .i64 G1, .int .i64 G2, .int .i64 G3, .int .i64 G4, .slice A2 gn c2], .agg #[.int .i64 U0, .int .i64 U1, .int .i64 U2], .int .i64 E2])) ∧ Below W.heap.size W w') :
    Calls Try.prog 9 #[.string f, .agg #[.int .i64 s, .int .i64 st, .int .i64 nx, .int .i64 g, .int .i64 sl, .slice A n c]] w fun e w' => e = .returned (.bool true) ∧ Below w.heap.size w w' := by
  have HB := Below.refl w.heap.size w
  have K0 := Blk.new w #[.int .i64 s, .int .i64 st, .int .i64 nx, .int .i64 g, .int .i64 sl, .slice A n c] 61
  have g1 := Lib.hid hg
  have g2 := Lib.hid hg2
  have R0 := Lib.hid hl
  have z0 := Lib.hid (show ([] : List OpV).length = 0 from rfl)
  clear hl hg hg2
  go_enter Try.func9, Try.ntmps9
  go_upto_region 4 with (first | (go_at_call 27; (with_reducible refine (awake19_c _).mono ?_); rintro e w1 ⟨rfl, hb⟩; have R0 := Lib.hid ((R0.out.below (bl_alloc (Below.refl _ _) _)).below hb); have HB := bl_step (w := w) (by repeat (with_reducible first | exact HB | (refine bl_set ?_ (by omega)) | apply bl_alloc | apply bl_drew | apply bl_drewN | fail)) hb; have hzB := HB.size; have K0 := Blk.on (by first | exact K0 | exact K0 #[] | exact K0 (.cells #[] 0) #[] | exact K0 #[] #[]) (by repeat (with_reducible first | exact K0 | exact K0 _ | exact K0 _ _ | apply Blk.alloc | apply Blk.drew | apply Blk.drewN | apply Blk.set6_0 | apply Blk.set6_1 | apply Blk.set6_2 | apply Blk.set6_3 | apply Blk.set6_4 | apply Blk.set6_5 | (apply Blk.off; (first | assumption | omega | (simp; omega))) | fail)) hb; (try clear cK0_0 cK0_1 cK0_2 cK0_3 cK0_4 cK0_5 fK0 lK0 nK0 mK0); obtain ⟨cK0_0, cK0_1, cK0_2, cK0_3, cK0_4, cK0_5, fK0, lK0, nK0, mK0⟩ := Blk.all6 K0) | (go_at_call 29; (with_reducible refine (g1.out _ _ _ R0.out).mono ?_); rintro e w2 ⟨⟨A2, c2, rfl⟩, hb⟩; have HB := bl_step (w := w) (by repeat (with_reducible first | exact HB | (refine bl_set ?_ (by omega)) | apply bl_alloc | apply bl_drew | apply bl_drewN | fail)) hb; have hzB := HB.size; have K0 := Blk.on (by first | exact K0 | exact K0 #[] | exact K0 (.cells #[] 0) #[] | exact K0 #[] #[]) (by repeat (with_reducible first | exact K0 | exact K0 _ | exact K0 _ _ | apply Blk.alloc | apply Blk.drew | apply Blk.drewN | apply Blk.set6_0 | apply Blk.set6_1 | apply Blk.set6_2 | apply Blk.set6_3 | apply Blk.set6_4 | apply Blk.set6_5 | (apply Blk.off; (first | assumption | omega | (simp; omega))) | fail)) hb; (try clear cK0_0 cK0_1 cK0_2 cK0_3 cK0_4 cK0_5 fK0 lK0 nK0 mK0); obtain ⟨cK0_0, cK0_1, cK0_2, cK0_3, cK0_4, cK0_5, fK0, lK0, nK0, mK0⟩ := Blk.all6 K0; have K2 := fun cs => Blk.new w2 cs 61; have K3 := fun o cs => Blk.new1 w2 o cs 64) | fail)
  go_wp2_with (first | (go_at_call 29; (with_reducible refine (g2.out _ _ _).mono ?_); rintro e w3 ⟨⟨G0, G1, G2, G3, G4, U0, U1, U2, E2, gn, A3, c3, rfl⟩, hb⟩; have HB := bl_step (w := w) (by repeat (with_reducible first | exact HB | (refine bl_set ?_ (by omega)) | apply bl_alloc | apply bl_drew | apply bl_drewN | fail)) hb; have hzB := HB.size; have K0 := Blk.on (by first | exact K0 | exact K0 #[] | exact K0 (.cells #[] 0) #[] | exact K0 #[] #[]) (by repeat (with_reducible first | exact K0 | exact K0 _ | exact K0 _ _ | apply Blk.alloc | apply Blk.drew | apply Blk.drewN | apply Blk.set6_0 | apply Blk.set6_1 | apply Blk.set6_2 | apply Blk.set6_3 | apply Blk.set6_4 | apply Blk.set6_5 | (apply Blk.off; (first | assumption | omega | (simp; omega))) | fail)) hb; (try clear cK0_0 cK0_1 cK0_2 cK0_3 cK0_4 cK0_5 fK0 lK0 nK0 mK0); obtain ⟨cK0_0, cK0_1, cK0_2, cK0_3, cK0_4, cK0_5, fK0, lK0, nK0, mK0⟩ := Blk.all6 K0; have K2 := Blk.on (by first | exact K2 | exact K2 #[] | exact K2 (.cells #[] 0) #[] | exact K2 #[] #[]) (by repeat (with_reducible first | exact K2 | exact K2 _ | exact K2 _ _ | apply Blk.alloc | apply Blk.drew | apply Blk.drewN | apply Blk.set6_0 | apply Blk.set6_1 | apply Blk.set6_2 | apply Blk.set6_3 | apply Blk.set6_4 | apply Blk.set6_5 | (apply Blk.off; (first | assumption | omega | (simp; omega))) | fail)) hb; (try clear cK2_0 cK2_1 cK2_2 cK2_3 cK2_4 cK2_5 fK2 lK2 nK2 mK2); obtain ⟨cK2_0, cK2_1, cK2_2, cK2_3, cK2_4, cK2_5, fK2, lK2, nK2, mK2⟩ := Blk.all6 K2) | (go_at_call 14; with_reducible refine (enum_c _ _).mono ?_; rintro e w' ⟨rfl, rfl⟩) | (go_at_call 30; with_reducible refine (sameR_c _ _ _ _ _ _ _ _ _ _ _ _ _ Row.none Row.none z0.out z0.out).mono ?_; rintro e w' ⟨rfl, hb⟩; have HB := bl_step (w := w) (by repeat (with_reducible first | exact HB | (refine bl_set ?_ (by omega)) | apply bl_alloc | apply bl_drew | apply bl_drewN | fail)) hb; have hzB := HB.size; have K0 := Blk.on (by first | exact K0 | exact K0 #[] | exact K0 (.cells #[] 0) #[] | exact K0 #[] #[]) (by repeat (with_reducible first | exact K0 | exact K0 _ | exact K0 _ _ | apply Blk.alloc | apply Blk.drew | apply Blk.drewN | apply Blk.set6_0 | apply Blk.set6_1 | apply Blk.set6_2 | apply Blk.set6_3 | apply Blk.set6_4 | apply Blk.set6_5 | (apply Blk.off; (first | assumption | omega | (simp; omega))) | fail)) hb; (try clear cK0_0 cK0_1 cK0_2 cK0_3 cK0_4 cK0_5 fK0 lK0 nK0 mK0); obtain ⟨cK0_0, cK0_1, cK0_2, cK0_3, cK0_4, cK0_5, fK0, lK0, nK0, mK0⟩ := Blk.all6 K0) | fail)
  go_ret
  exact ⟨rfl, (by repeat (with_reducible first | exact Below.refl _ _ | assumption | (refine bl_set ?_ (by omega)) | apply bl_alloc | apply bl_drewN | apply bl_drew | (refine bl_step ?_ (by assumption)) | fail))⟩
set_option maxRecDepth 100000 in
set_option maxHeartbeats 12800000 in
theorem twice_yes (f : ByteArray) (s st nx g sl D0 D1 D2 D3 D4 : Int) (A : Option Addr) (c n p : Nat) (xs ys : List OpV) (w : World) (hl : Row w A xs) (hp : ys.length = p) (hf : f.size = 768)
    (hg : ∀ (W : World) (A' : Option Addr) (c' : Nat), Row W A' xs → Calls Try.prog 29 #[.string f, .agg #[.int .i64 s, .int .i64 st, .int .i64 nx, .int .i64 g, .int .i64 sl, .slice A' n c']] W fun e w' => (∃ A2 c2, e = .returned (.tuple #[.agg #[.int .i64 D0, .int .i64 D1, .int .i64 D2, .int .i64 D3, .int .i64 D4, .slice A2 p c2], .agg #[.int .i64 D1, .int .i64 (min (p : Int) 255), .int .i64 D0], .int .i64 0]) ∧ Row w' A2 ys) ∧ Below W.heap.size W w')
    (hg2 : ∀ (W : World) (A' : Option Addr) (c' : Nat), Row W A' ys → Calls Try.prog 29 #[.string f, .agg #[.int .i64 D0, .int .i64 D1, .int .i64 D2, .int .i64 D3, .int .i64 D4, .slice A' p c']] W fun e w' => (∃ A2 c2, e = .returned (.tuple #[.agg #[.int .i64 D0, .int .i64 D1, .int .i64 D2, .int .i64 D3, .int .i64 D4, .slice A2 p c2], .agg #[.int .i64 D1, .int .i64 (min (p : Int) 255), .int .i64 D0], .int .i64 0]) ∧ Row w' A2 ys) ∧ Below W.heap.size W w') :
    Calls Try.prog 9 #[.string f, .agg #[.int .i64 s, .int .i64 st, .int .i64 nx, .int .i64 g, .int .i64 sl, .slice A n c]] w fun e w' => e = .returned (.bool true) ∧ Below w.heap.size w w' := by
  have HB := Below.refl w.heap.size w
  have K0 := Blk.new w #[.int .i64 s, .int .i64 st, .int .i64 nx, .int .i64 g, .int .i64 sl, .slice A n c] 61
  have g1 := Lib.hid hg
  have g2 := Lib.hid hg2
  have R0 := Lib.hid hl
  have HP := Lib.hid hp
  have mm := Lib.hid (fun W : World => rmay_c f W (by omega))
  rw [decide_eq_true hf] at mm
  clear hl hg hg2 hp hf
  go_enter Try.func9, Try.ntmps9
  go_upto_region 4 with (first | (go_at_call 27; (with_reducible refine (awake19_c _).mono ?_); rintro e w1 ⟨rfl, hb⟩; have R0 := Lib.hid ((R0.out.below (bl_alloc (Below.refl _ _) _)).below hb); have HB := bl_step (w := w) (by repeat (with_reducible first | exact HB | (refine bl_set ?_ (by omega)) | apply bl_alloc | apply bl_drew | apply bl_drewN | fail)) hb; have hzB := HB.size; have K0 := Blk.on (by first | exact K0 | exact K0 #[] | exact K0 (.cells #[] 0) #[] | exact K0 #[] #[]) (by repeat (with_reducible first | exact K0 | exact K0 _ | exact K0 _ _ | apply Blk.alloc | apply Blk.drew | apply Blk.drewN | apply Blk.set6_0 | apply Blk.set6_1 | apply Blk.set6_2 | apply Blk.set6_3 | apply Blk.set6_4 | apply Blk.set6_5 | (apply Blk.off; (first | assumption | omega | (simp; omega))) | fail)) hb; (try clear cK0_0 cK0_1 cK0_2 cK0_3 cK0_4 cK0_5 fK0 lK0 nK0 mK0); obtain ⟨cK0_0, cK0_1, cK0_2, cK0_3, cK0_4, cK0_5, fK0, lK0, nK0, mK0⟩ := Blk.all6 K0) | (go_at_call 29; (with_reducible refine (g1.out _ _ _ R0.out).mono ?_); rintro e w2 ⟨⟨A2, c2, rfl, R2⟩, hb⟩; have R2 := Lib.hid R2; have HB := bl_step (w := w) (by repeat (with_reducible first | exact HB | (refine bl_set ?_ (by omega)) | apply bl_alloc | apply bl_drew | apply bl_drewN | fail)) hb; have hzB := HB.size; have K0 := Blk.on (by first | exact K0 | exact K0 #[] | exact K0 (.cells #[] 0) #[] | exact K0 #[] #[]) (by repeat (with_reducible first | exact K0 | exact K0 _ | exact K0 _ _ | apply Blk.alloc | apply Blk.drew | apply Blk.drewN | apply Blk.set6_0 | apply Blk.set6_1 | apply Blk.set6_2 | apply Blk.set6_3 | apply Blk.set6_4 | apply Blk.set6_5 | (apply Blk.off; (first | assumption | omega | (simp; omega))) | fail)) hb; (try clear cK0_0 cK0_1 cK0_2 cK0_3 cK0_4 cK0_5 fK0 lK0 nK0 mK0); obtain ⟨cK0_0, cK0_1, cK0_2, cK0_3, cK0_4, cK0_5, fK0, lK0, nK0, mK0⟩ := Blk.all6 K0; have K2 := fun cs => Blk.new w2 cs 61; have K3 := fun o cs => Blk.new1 w2 o cs 64) | fail)
  go_upto_region 7 with (first | (go_at_call 29; (with_reducible refine (g2.out _ _ _ (R2.out.below (bl_alloc (bl_alloc (Below.refl _ _) _) _))).mono ?_); rintro e w3 ⟨⟨A3, c3, rfl, R3⟩, hb⟩; have R2 := Lib.hid ((R2.out.below (bl_alloc (bl_alloc (Below.refl _ _) _) _)).below hb); have R3 := Lib.hid R3; have HB := bl_step (w := w) (by repeat (with_reducible first | exact HB | (refine bl_set ?_ (by omega)) | apply bl_alloc | apply bl_drew | apply bl_drewN | fail)) hb; have hzB := HB.size; have K0 := Blk.on (by first | exact K0 | exact K0 #[] | exact K0 (.cells #[] 0) #[] | exact K0 #[] #[]) (by repeat (with_reducible first | exact K0 | exact K0 _ | exact K0 _ _ | apply Blk.alloc | apply Blk.drew | apply Blk.drewN | apply Blk.set6_0 | apply Blk.set6_1 | apply Blk.set6_2 | apply Blk.set6_3 | apply Blk.set6_4 | apply Blk.set6_5 | (apply Blk.off; (first | assumption | omega | (simp; omega))) | fail)) hb; (try clear cK0_0 cK0_1 cK0_2 cK0_3 cK0_4 cK0_5 fK0 lK0 nK0 mK0); obtain ⟨cK0_0, cK0_1, cK0_2, cK0_3, cK0_4, cK0_5, fK0, lK0, nK0, mK0⟩ := Blk.all6 K0; have K2 := Blk.on (by first | exact K2 | exact K2 #[] | exact K2 (.cells #[] 0) #[] | exact K2 #[] #[]) (by repeat (with_reducible first | exact K2 | exact K2 _ | exact K2 _ _ | apply Blk.alloc | apply Blk.drew | apply Blk.drewN | apply Blk.set6_0 | apply Blk.set6_1 | apply Blk.set6_2 | apply Blk.set6_3 | apply Blk.set6_4 | apply Blk.set6_5 | (apply Blk.off; (first | assumption | omega | (simp; omega))) | fail)) hb; (try clear cK2_0 cK2_1 cK2_2 cK2_3 cK2_4 cK2_5 fK2 lK2 nK2 mK2); obtain ⟨cK2_0, cK2_1, cK2_2, cK2_3, cK2_4, cK2_5, fK2, lK2, nK2, mK2⟩ := Blk.all6 K2; have K3 := Blk.on (by first | exact K3 | exact K3 #[] | exact K3 (.cells #[] 0) #[] | exact K3 #[] #[]) (by repeat (with_reducible first | exact K3 | exact K3 _ | exact K3 _ _ | apply Blk.alloc | apply Blk.drew | apply Blk.drewN | apply Blk.set3_0 | apply Blk.set3_1 | apply Blk.set3_2 | (apply Blk.off; (first | assumption | omega | (simp; omega))) | fail)) hb; (try clear cK3_0 cK3_1 cK3_2 fK3 lK3 nK3 mK3); obtain ⟨cK3_0, cK3_1, cK3_2, fK3, lK3, nK3, mK3⟩ := Blk.all3 K3; have K4 := fun cs => Blk.new w3 cs 61; have K5 := fun o cs => Blk.new1 w3 o cs 64) | (go_at_call 14; with_reducible refine (enum_c _ _).mono ?_; rintro e w' ⟨rfl, rfl⟩) | fail)
  go_wp2_with (first | (go_at_call 14; with_reducible refine (enum_c _ _).mono ?_; rintro e w' ⟨rfl, rfl⟩) | (go_at_call 30; (with_reducible refine (sameR_c _ _ _ _ _ _ _ _ _ _ _ _ _ (R2.out.below (bl_alloc (bl_alloc (Below.refl _ _) _) _)) (R3.out.below (bl_alloc (bl_alloc (Below.refl _ _) _) _)) HP.out HP.out).mono ?_); rintro e w4 ⟨rfl, hb⟩; have HB := bl_step (w := w) (by repeat (with_reducible first | exact HB | (refine bl_set ?_ (by omega)) | apply bl_alloc | apply bl_drew | apply bl_drewN | fail)) hb; have hzB := HB.size; have K2 := Blk.on (by first | exact K2 | exact K2 #[] | exact K2 (.cells #[] 0) #[] | exact K2 #[] #[]) (by repeat (with_reducible first | exact K2 | exact K2 _ | exact K2 _ _ | apply Blk.alloc | apply Blk.drew | apply Blk.drewN | apply Blk.set6_0 | apply Blk.set6_1 | apply Blk.set6_2 | apply Blk.set6_3 | apply Blk.set6_4 | apply Blk.set6_5 | (apply Blk.off; (first | assumption | omega | (simp; omega))) | fail)) hb; (try clear cK2_0 cK2_1 cK2_2 cK2_3 cK2_4 cK2_5 fK2 lK2 nK2 mK2); obtain ⟨cK2_0, cK2_1, cK2_2, cK2_3, cK2_4, cK2_5, fK2, lK2, nK2, mK2⟩ := Blk.all6 K2; have K3 := Blk.on (by first | exact K3 | exact K3 #[] | exact K3 (.cells #[] 0) #[] | exact K3 #[] #[]) (by repeat (with_reducible first | exact K3 | exact K3 _ | exact K3 _ _ | apply Blk.alloc | apply Blk.drew | apply Blk.drewN | apply Blk.set3_0 | apply Blk.set3_1 | apply Blk.set3_2 | (apply Blk.off; (first | assumption | omega | (simp; omega))) | fail)) hb; (try clear cK3_0 cK3_1 cK3_2 fK3 lK3 nK3 mK3); obtain ⟨cK3_0, cK3_1, cK3_2, fK3, lK3, nK3, mK3⟩ := Blk.all3 K3; have K5 := Blk.on (by first | exact K5 | exact K5 #[] | exact K5 (.cells #[] 0) #[] | exact K5 #[] #[]) (by repeat (with_reducible first | exact K5 | exact K5 _ | exact K5 _ _ | apply Blk.alloc | apply Blk.drew | apply Blk.drewN | apply Blk.set3_0 | apply Blk.set3_1 | apply Blk.set3_2 | (apply Blk.off; (first | assumption | omega | (simp; omega))) | fail)) hb; (try clear cK5_0 cK5_1 cK5_2 fK5 lK5 nK5 mK5); obtain ⟨cK5_0, cK5_1, cK5_2, fK5, lK5, nK5, mK5⟩ := Blk.all3 K5) | (go_at_call 28; (with_reducible refine (sent_c _).mono ?_); rintro e w5 ⟨⟨A5, c5, rfl, _⟩, hb⟩; have HB := bl_step (w := w) (by repeat (with_reducible first | exact HB | (refine bl_set ?_ (by omega)) | apply bl_alloc | apply bl_drew | apply bl_drewN | fail)) hb; have hzB := HB.size; have K2 := Blk.on (by first | exact K2 | exact K2 #[] | exact K2 (.cells #[] 0) #[] | exact K2 #[] #[]) (by repeat (with_reducible first | exact K2 | exact K2 _ | exact K2 _ _ | apply Blk.alloc | apply Blk.drew | apply Blk.drewN | apply Blk.set6_0 | apply Blk.set6_1 | apply Blk.set6_2 | apply Blk.set6_3 | apply Blk.set6_4 | apply Blk.set6_5 | (apply Blk.off; (first | assumption | omega | (simp; omega))) | fail)) hb; (try clear cK2_0 cK2_1 cK2_2 cK2_3 cK2_4 cK2_5 fK2 lK2 nK2 mK2); obtain ⟨cK2_0, cK2_1, cK2_2, cK2_3, cK2_4, cK2_5, fK2, lK2, nK2, mK2⟩ := Blk.all6 K2) | (go_at_call 31; with_reducible refine (mm.out _).mono ?_; rintro e w' ⟨rfl, rfl⟩) | fail)
  go_ret
  exact ⟨rfl, (by repeat (with_reducible first | exact Below.refl _ _ | assumption | (refine bl_set ?_ (by omega)) | apply bl_alloc | apply bl_drewN | apply bl_drew | (refine bl_step ?_ (by assumption)) | fail))⟩
theorem twice_w (f : ByteArray) (s st nx g sl : Int) (A : Option Addr) (c n : Nat) (xs : List OpV) (w : World) (h : f.size ≤ 9223372036854775807) (hl : Row w A xs) (hn : xs.length = n) :
    Calls Try.prog 9 #[.string f, .agg #[.int .i64 s, .int .i64 st, .int .i64 nx, .int .i64 g, .int .i64 sl, .slice A n c]] w fun e w' => e = .returned (.bool true) ∧ Below w.heap.size w w' := by
  have G := fun (W : World) (A' : Option Addr) (c' : Nat) (hr : Row W A' xs) => get_c f ⟨s, st, nx, g, sl, xs⟩ A' c' n W h hr hn
  simp only at G
  cases hb : bothB f ⟨s, st, nx, g, sl, xs⟩
  · rw [(get_no hb).1, (get_no hb).2] at G
    refine twice_no f s st nx g sl A c n xs w hl (fun W A' c' hr => (G W A' c' hr).mono ?_) (fun W A' c' => (get_c f DS.zero A' c' 0 W h Row.none rfl).mono ?_)
    · rintro e w' ⟨⟨A2, n2, c2, h1, h2, h3⟩, h4⟩
      obtain rfl : n2 = 0 := by rw [← h2]; rfl
      exact ⟨⟨A2, c2, h1⟩, h4⟩
    · rintro e w' ⟨⟨A2, n2, c2, h1, h2, h3⟩, h4⟩
      exact ⟨⟨_, _, _, _, _, _, _, _, _, _, _, _, h1⟩, h4⟩
  · rw [(get_yes hb).1, (get_yes hb).2] at G
    obtain ⟨hf, hm⟩ := both_parts hb
    have hm2 : (statD f ⟨s, st, nx, g, sl, xs⟩).may = true := stat_may hm
    have h2 : statD f (statD f ⟨s, st, nx, g, sl, xs⟩) = statD f ⟨s, st, nx, g, sl, xs⟩ := stat_two
    obtain ⟨D0, D1, D2, D3, D4, ys, hD⟩ : ∃ a b c d e l, statD f ⟨s, st, nx, g, sl, xs⟩ = ⟨a, b, c, d, e, l⟩ := ⟨_, _, _, _, _, _, rfl⟩
    rw [hD] at G hm2 h2
    have hb2 : bothB f ⟨D0, D1, D2, D3, D4, ys⟩ = true := by simp [bothB, hf, hm2]
    have G2 := fun (W : World) (A' : Option Addr) (c' : Nat) (hr : Row W A' ys) => get_c f ⟨D0, D1, D2, D3, D4, ys⟩ A' c' ys.length W h hr rfl
    rw [(get_yes hb2).1, (get_yes hb2).2, h2] at G2
    refine twice_yes f s st nx g sl D0 D1 D2 D3 D4 A c n ys.length xs ys w hl rfl hf (fun W A' c' hr => (G W A' c' hr).mono ?_) (fun W A' c' hr => (G2 W A' c' hr).mono ?_)
    · rintro e w' ⟨⟨A2, n2, c2, k1, k2, k3⟩, k4⟩
      obtain rfl := k2
      exact ⟨⟨A2, c2, k1, own_row' k3⟩, k4⟩
    · rintro e w' ⟨⟨A2, n2, c2, k1, k2, k3⟩, k4⟩
      obtain rfl := k2
      exact ⟨⟨A2, c2, k1, own_row' k3⟩, k4⟩
end Go.Proofs.Ytimnhdmpfndeaaa.Dv
