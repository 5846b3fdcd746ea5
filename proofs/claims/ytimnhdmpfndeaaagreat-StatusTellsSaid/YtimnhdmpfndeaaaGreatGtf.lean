/- Layer 19: StatusTells: the walk (printed by gen_gtf.py). -/
import Derived.Test.YtimnhdmpfndeaaaGreatGte
namespace Go.Proofs.YtimnhdmpfndeaaaGreat.Dv
open Go.RowKit Go.Proofs.YtimnhdmpfndeaaaGreat.Kt Go.Proofs.YtimnhdmpfndeaaaGreat.Lw Go.Proofs.YtimnhdmpfndeaaaGreat.St Go.Proofs.YtimnhdmpfndeaaaGreat.Nm Go.Proofs.YtimnhdmpfndeaaaGreat.Es Go.Proofs.YtimnhdmpfndeaaaGreat.By Go.Proofs.YtimnhdmpfndeaaaGreat.En Go.Proofs.YtimnhdmpfndeaaaGreat.Jr Go.Proofs.YtimnhdmpfndeaaaGreat.Im Go.Proofs.YtimnhdmpfndeaaaGreat.Sl Go.Proofs.YtimnhdmpfndeaaaGreat.Gr Go.Proofs.YtimnhdmpfndeaaaGreat.Ops Go.Proofs.YtimnhdmpfndeaaaGreat.Ch Go.Proofs.YtimnhdmpfndeaaaGreat.Fl Go.Proofs.YtimnhdmpfndeaaaGreat.Pl
set_option linter.unusedVariables false
set_option linter.unusedSimpArgs false
attribute [local irreducible] gotB goodB Cr.crcB nQ nS nZ nM placeB wholeB devMay
attribute [local go_sem high] eqAns
set_option maxRecDepth 100000 in
set_option maxHeartbeats 12800000 in
theorem tells_f (f : ByteArray) (s st nx g sl : Int) (A : Option Addr) (c n : Nat) (xs : List OpV) (w : World) (hl : Row w A xs) (hn : xs.length = n) (hby : n * 32 ≤ 140737488355328)
    (hg : ∀ (W : World) (A' : Option Addr) (c' : Nat), Row W A' xs → Calls Tryz.prog 7 #[.string f, .agg #[.int .i64 s, .int .i64 st, .int .i64 nx, .int .i64 g, .int .i64 sl, .slice A' n c']] W fun e w' => (∃ A2 c2, e = .returned (.tuple #[.agg #[.int .i64 0, .int .i64 0, .int .i64 0, .int .i64 0, .int .i64 0, .slice A2 0 c2], .agg #[.int .i64 0, .int .i64 (min (0 : Int) 255), .int .i64 0], .int .i64 1900]) ∧ Own w' W.heap.size A2 []) ∧ Below W.heap.size W w') :
    Calls Tryz.prog 4 #[.string f, .agg #[.int .i64 s, .int .i64 st, .int .i64 nx, .int .i64 g, .int .i64 sl, .slice A n c]] w fun e w' => e = .returned (.bool true) ∧ Below w.heap.size w w' := by
  have HB := Below.refl w.heap.size w
  have K0 := Blk.new w #[.int .i64 s, .int .i64 st, .int .i64 nx, .int .i64 g, .int .i64 sl, .slice A n c] 24
  have g1 := Lib.hid hg
  have R0 := Lib.hid hl
  have HN := Lib.hid hn
  have z0 := Lib.hid (show ([] : List OpV).length = 0 from rfl)
  have hmn : min 255 (0 : Int) = min (0 : Int) 255 := by rw [Int.min_comm]
  clear hl hn hg
  go_enter Tryz.func4, Tryz.ntmps4
  go_upto_region 4 with (first | (go_at_call 12; (with_reducible refine (awake19_c _).mono ?_); rintro e w1 ⟨rfl, hb⟩; have R0 := Lib.hid ((R0.out.below (bl_alloc (Below.refl _ _) _)).below hb); have HB := bl_step (w := w) (by repeat (with_reducible first | exact HB | (refine bl_set ?_ (by omega)) | apply bl_alloc | apply bl_drew | apply bl_drewN | fail)) hb; have hzB := HB.size; have K0 := Blk.on (by first | exact K0 | exact K0 #[] | exact K0 (.cells #[] 0) #[] | exact K0 #[] #[]) (by repeat (with_reducible first | exact K0 | exact K0 _ | exact K0 _ _ | apply Blk.alloc | apply Blk.drew | apply Blk.drewN | apply Blk.set6_0 | apply Blk.set6_1 | apply Blk.set6_2 | apply Blk.set6_3 | apply Blk.set6_4 | apply Blk.set6_5 | (apply Blk.off; (first | assumption | omega | (simp; omega))) | fail)) hb; (try clear cK0_0 cK0_1 cK0_2 cK0_3 cK0_4 cK0_5 fK0 lK0 nK0 mK0); obtain ⟨cK0_0, cK0_1, cK0_2, cK0_3, cK0_4, cK0_5, fK0, lK0, nK0, mK0⟩ := Blk.all6 K0) | (go_at_call 7; (with_reducible refine (g1.out _ _ _ R0.out).mono ?_); rintro e w2 ⟨⟨A2, c2, rfl, HO⟩, hb⟩; have R0 := Lib.hid (R0.out.below hb); have HB := bl_step (w := w) (by repeat (with_reducible first | exact HB | (refine bl_set ?_ (by omega)) | apply bl_alloc | apply bl_drew | apply bl_drewN | fail)) hb; have hzB := HB.size; have K0 := Blk.on (by first | exact K0 | exact K0 #[] | exact K0 (.cells #[] 0) #[] | exact K0 #[] #[]) (by repeat (with_reducible first | exact K0 | exact K0 _ | exact K0 _ _ | apply Blk.alloc | apply Blk.drew | apply Blk.drewN | apply Blk.set6_0 | apply Blk.set6_1 | apply Blk.set6_2 | apply Blk.set6_3 | apply Blk.set6_4 | apply Blk.set6_5 | (apply Blk.off; (first | assumption | omega | (simp; omega))) | fail)) hb; (try clear cK0_0 cK0_1 cK0_2 cK0_3 cK0_4 cK0_5 fK0 lK0 nK0 mK0); obtain ⟨cK0_0, cK0_1, cK0_2, cK0_3, cK0_4, cK0_5, fK0, lK0, nK0, mK0⟩ := Blk.all6 K0; have K2 := fun cs => Blk.new w2 cs 24; have K3 := fun o cs => Blk.new1 w2 o cs 27) | fail)
  have R1 := Lib.hid (own_row HO)
  clear hb
  go_wp2_with (first | (go_at_call 10; with_reducible refine (enum_c _ _).mono ?_; rintro e w' ⟨rfl, rfl⟩) | (go_at_call 9; (with_reducible refine (sameR_c _ _ _ _ _ _ _ _ _ _ _ _ _ Row.none Row.none z0.out z0.out).mono ?_); rintro e w6 ⟨rfl, hb⟩; have HB := bl_step (w := w) (by repeat (with_reducible first | exact HB | (refine bl_set ?_ (by omega)) | apply bl_alloc | apply bl_drew | apply bl_drewN | fail)) hb; have hzB := HB.size; have K0 := Blk.on (by first | exact K0 | exact K0 #[] | exact K0 (.cells #[] 0) #[] | exact K0 #[] #[]) (by repeat (with_reducible first | exact K0 | exact K0 _ | exact K0 _ _ | apply Blk.alloc | apply Blk.drew | apply Blk.drewN | apply Blk.set6_0 | apply Blk.set6_1 | apply Blk.set6_2 | apply Blk.set6_3 | apply Blk.set6_4 | apply Blk.set6_5 | (apply Blk.off; (first | assumption | omega | (simp; omega))) | fail)) hb; (try clear cK0_0 cK0_1 cK0_2 cK0_3 cK0_4 cK0_5 fK0 lK0 nK0 mK0); obtain ⟨cK0_0, cK0_1, cK0_2, cK0_3, cK0_4, cK0_5, fK0, lK0, nK0, mK0⟩ := Blk.all6 K0; have K2 := Blk.on (by first | exact K2 | exact K2 #[] | exact K2 (.cells #[] 0) #[] | exact K2 #[] #[]) (by repeat (with_reducible first | exact K2 | exact K2 _ | exact K2 _ _ | apply Blk.alloc | apply Blk.drew | apply Blk.drewN | apply Blk.set6_0 | apply Blk.set6_1 | apply Blk.set6_2 | apply Blk.set6_3 | apply Blk.set6_4 | apply Blk.set6_5 | (apply Blk.off; (first | assumption | omega | (simp; omega))) | fail)) hb; (try clear cK2_0 cK2_1 cK2_2 cK2_3 cK2_4 cK2_5 fK2 lK2 nK2 mK2); obtain ⟨cK2_0, cK2_1, cK2_2, cK2_3, cK2_4, cK2_5, fK2, lK2, nK2, mK2⟩ := Blk.all6 K2) | fail)
  go_ret
  exact ⟨rfl, (by repeat (with_reducible first | exact Below.refl _ _ | assumption | (refine bl_set ?_ (by omega)) | apply bl_alloc | apply bl_drewN | apply bl_drew | (refine bl_step ?_ (by assumption)) | fail))⟩
set_option maxRecDepth 100000 in
set_option maxHeartbeats 12800000 in
theorem tells_z (f : ByteArray) (s st nx g sl : Int) (A : Option Addr) (c n : Nat) (xs : List OpV) (w : World) (hl : Row w A xs) (hn : xs.length = n) (hby : n * 32 ≤ 140737488355328) (hs1 : ¬ s = 1) (hs4 : ¬ s = 4)
    (hg : ∀ (W : World) (A' : Option Addr) (c' : Nat), Row W A' xs → Calls Tryz.prog 7 #[.string f, .agg #[.int .i64 s, .int .i64 st, .int .i64 nx, .int .i64 g, .int .i64 sl, .slice A' n c']] W fun e w' => (∃ A2 c2, e = .returned (.tuple #[.agg #[.int .i64 s, .int .i64 st, .int .i64 nx, .int .i64 g, .int .i64 sl, .slice A2 n c2], .agg #[.int .i64 st, .int .i64 (min (n : Int) 255), .int .i64 s], .int .i64 0]) ∧ Own w' W.heap.size A2 xs) ∧ Below W.heap.size W w') :
    Calls Tryz.prog 4 #[.string f, .agg #[.int .i64 s, .int .i64 st, .int .i64 nx, .int .i64 g, .int .i64 sl, .slice A n c]] w fun e w' => e = .returned (.bool true) ∧ Below w.heap.size w w' := by
  have HB := Below.refl w.heap.size w
  have K0 := Blk.new w #[.int .i64 s, .int .i64 st, .int .i64 nx, .int .i64 g, .int .i64 sl, .slice A n c] 24
  have g1 := Lib.hid hg
  have R0 := Lib.hid hl
  have HN := Lib.hid hn
  have z0 := Lib.hid (show ([] : List OpV).length = 0 from rfl)
  have hmn : min 255 (n : Int) = min (n : Int) 255 := by rw [Int.min_comm]
  have h1 : (s == 1) = false := by simpa using hs1
  have h4 : (s == 4) = false := by simpa using hs4
  clear hs1 hs4
  clear hl hn hg
  go_enter Tryz.func4, Tryz.ntmps4
  go_upto_region 4 with (first | (go_at_call 12; (with_reducible refine (awake19_c _).mono ?_); rintro e w1 ⟨rfl, hb⟩; have R0 := Lib.hid ((R0.out.below (bl_alloc (Below.refl _ _) _)).below hb); have HB := bl_step (w := w) (by repeat (with_reducible first | exact HB | (refine bl_set ?_ (by omega)) | apply bl_alloc | apply bl_drew | apply bl_drewN | fail)) hb; have hzB := HB.size; have K0 := Blk.on (by first | exact K0 | exact K0 #[] | exact K0 (.cells #[] 0) #[] | exact K0 #[] #[]) (by repeat (with_reducible first | exact K0 | exact K0 _ | exact K0 _ _ | apply Blk.alloc | apply Blk.drew | apply Blk.drewN | apply Blk.set6_0 | apply Blk.set6_1 | apply Blk.set6_2 | apply Blk.set6_3 | apply Blk.set6_4 | apply Blk.set6_5 | (apply Blk.off; (first | assumption | omega | (simp; omega))) | fail)) hb; (try clear cK0_0 cK0_1 cK0_2 cK0_3 cK0_4 cK0_5 fK0 lK0 nK0 mK0); obtain ⟨cK0_0, cK0_1, cK0_2, cK0_3, cK0_4, cK0_5, fK0, lK0, nK0, mK0⟩ := Blk.all6 K0) | (go_at_call 7; (with_reducible refine (g1.out _ _ _ R0.out).mono ?_); rintro e w2 ⟨⟨A2, c2, rfl, HO⟩, hb⟩; have R0 := Lib.hid (R0.out.below hb); have HB := bl_step (w := w) (by repeat (with_reducible first | exact HB | (refine bl_set ?_ (by omega)) | apply bl_alloc | apply bl_drew | apply bl_drewN | fail)) hb; have hzB := HB.size; have K0 := Blk.on (by first | exact K0 | exact K0 #[] | exact K0 (.cells #[] 0) #[] | exact K0 #[] #[]) (by repeat (with_reducible first | exact K0 | exact K0 _ | exact K0 _ _ | apply Blk.alloc | apply Blk.drew | apply Blk.drewN | apply Blk.set6_0 | apply Blk.set6_1 | apply Blk.set6_2 | apply Blk.set6_3 | apply Blk.set6_4 | apply Blk.set6_5 | (apply Blk.off; (first | assumption | omega | (simp; omega))) | fail)) hb; (try clear cK0_0 cK0_1 cK0_2 cK0_3 cK0_4 cK0_5 fK0 lK0 nK0 mK0); obtain ⟨cK0_0, cK0_1, cK0_2, cK0_3, cK0_4, cK0_5, fK0, lK0, nK0, mK0⟩ := Blk.all6 K0; have K2 := fun cs => Blk.new w2 cs 24; have K3 := fun o cs => Blk.new1 w2 o cs 27) | fail)
  have R1 := Lib.hid (own_row HO)
  clear hb
  go_wp2_with (first | (go_at_call 10; with_reducible refine (enum_c _ _).mono ?_; rintro e w' ⟨rfl, rfl⟩) | (go_at_call 9; (with_reducible refine (sameR_c _ _ _ _ _ _ _ _ _ _ _ _ _ (R1.out.below (bl_alloc (bl_alloc (Below.refl _ _) _) _)) (R0.out.below (bl_alloc (bl_alloc (Below.refl _ _) _) _)) HN.out HN.out).mono ?_); rintro e w6 ⟨rfl, hb⟩; have HB := bl_step (w := w) (by repeat (with_reducible first | exact HB | (refine bl_set ?_ (by omega)) | apply bl_alloc | apply bl_drew | apply bl_drewN | fail)) hb; have hzB := HB.size; have K0 := Blk.on (by first | exact K0 | exact K0 #[] | exact K0 (.cells #[] 0) #[] | exact K0 #[] #[]) (by repeat (with_reducible first | exact K0 | exact K0 _ | exact K0 _ _ | apply Blk.alloc | apply Blk.drew | apply Blk.drewN | apply Blk.set6_0 | apply Blk.set6_1 | apply Blk.set6_2 | apply Blk.set6_3 | apply Blk.set6_4 | apply Blk.set6_5 | (apply Blk.off; (first | assumption | omega | (simp; omega))) | fail)) hb; (try clear cK0_0 cK0_1 cK0_2 cK0_3 cK0_4 cK0_5 fK0 lK0 nK0 mK0); obtain ⟨cK0_0, cK0_1, cK0_2, cK0_3, cK0_4, cK0_5, fK0, lK0, nK0, mK0⟩ := Blk.all6 K0; have K2 := Blk.on (by first | exact K2 | exact K2 #[] | exact K2 (.cells #[] 0) #[] | exact K2 #[] #[]) (by repeat (with_reducible first | exact K2 | exact K2 _ | exact K2 _ _ | apply Blk.alloc | apply Blk.drew | apply Blk.drewN | apply Blk.set6_0 | apply Blk.set6_1 | apply Blk.set6_2 | apply Blk.set6_3 | apply Blk.set6_4 | apply Blk.set6_5 | (apply Blk.off; (first | assumption | omega | (simp; omega))) | fail)) hb; (try clear cK2_0 cK2_1 cK2_2 cK2_3 cK2_4 cK2_5 fK2 lK2 nK2 mK2); obtain ⟨cK2_0, cK2_1, cK2_2, cK2_3, cK2_4, cK2_5, fK2, lK2, nK2, mK2⟩ := Blk.all6 K2) | fail)
  go_ret
  exact ⟨rfl, (by repeat (with_reducible first | exact Below.refl _ _ | assumption | (refine bl_set ?_ (by omega)) | apply bl_alloc | apply bl_drewN | apply bl_drew | (refine bl_step ?_ (by assumption)) | fail))⟩
set_option maxRecDepth 100000 in
set_option maxHeartbeats 12800000 in
theorem tells_1n (f : ByteArray) (st nx g sl : Int) (A : Option Addr) (c : Nat) (xs : List OpV) (w : World) (hl : Row w A xs) (hn : xs.length = 0) (hby : 0 * 32 ≤ 140737488355328)
    (hg : ∀ (W : World) (A' : Option Addr) (c' : Nat), Row W A' xs → Calls Tryz.prog 7 #[.string f, .agg #[.int .i64 1, .int .i64 st, .int .i64 nx, .int .i64 g, .int .i64 sl, .slice A' 0 c']] W fun e w' => (∃ A2 c2, e = .returned (.tuple #[.agg #[.int .i64 3, .int .i64 st, .int .i64 nx, .int .i64 g, .int .i64 sl, .slice A2 0 c2], .agg #[.int .i64 st, .int .i64 (min (0 : Int) 255), .int .i64 3], .int .i64 0]) ∧ Own w' W.heap.size A2 xs) ∧ Below W.heap.size W w') :
    Calls Tryz.prog 4 #[.string f, .agg #[.int .i64 1, .int .i64 st, .int .i64 nx, .int .i64 g, .int .i64 sl, .slice A 0 c]] w fun e w' => e = .returned (.bool true) ∧ Below w.heap.size w w' := by
  have HB := Below.refl w.heap.size w
  have K0 := Blk.new w #[.int .i64 1, .int .i64 st, .int .i64 nx, .int .i64 g, .int .i64 sl, .slice A 0 c] 24
  have g1 := Lib.hid hg
  have R0 := Lib.hid hl
  have HN := Lib.hid hn
  have z0 := Lib.hid (show ([] : List OpV).length = 0 from rfl)
  have hmn : min 255 (0 : Int) = min (0 : Int) 255 := by rw [Int.min_comm]
  clear hl hn hg
  go_enter Tryz.func4, Tryz.ntmps4
  go_upto_region 4 with (first | (go_at_call 12; (with_reducible refine (awake19_c _).mono ?_); rintro e w1 ⟨rfl, hb⟩; have R0 := Lib.hid ((R0.out.below (bl_alloc (Below.refl _ _) _)).below hb); have HB := bl_step (w := w) (by repeat (with_reducible first | exact HB | (refine bl_set ?_ (by omega)) | apply bl_alloc | apply bl_drew | apply bl_drewN | fail)) hb; have hzB := HB.size; have K0 := Blk.on (by first | exact K0 | exact K0 #[] | exact K0 (.cells #[] 0) #[] | exact K0 #[] #[]) (by repeat (with_reducible first | exact K0 | exact K0 _ | exact K0 _ _ | apply Blk.alloc | apply Blk.drew | apply Blk.drewN | apply Blk.set6_0 | apply Blk.set6_1 | apply Blk.set6_2 | apply Blk.set6_3 | apply Blk.set6_4 | apply Blk.set6_5 | (apply Blk.off; (first | assumption | omega | (simp; omega))) | fail)) hb; (try clear cK0_0 cK0_1 cK0_2 cK0_3 cK0_4 cK0_5 fK0 lK0 nK0 mK0); obtain ⟨cK0_0, cK0_1, cK0_2, cK0_3, cK0_4, cK0_5, fK0, lK0, nK0, mK0⟩ := Blk.all6 K0) | (go_at_call 7; (with_reducible refine (g1.out _ _ _ R0.out).mono ?_); rintro e w2 ⟨⟨A2, c2, rfl, HO⟩, hb⟩; have R0 := Lib.hid (R0.out.below hb); have HB := bl_step (w := w) (by repeat (with_reducible first | exact HB | (refine bl_set ?_ (by omega)) | apply bl_alloc | apply bl_drew | apply bl_drewN | fail)) hb; have hzB := HB.size; have K0 := Blk.on (by first | exact K0 | exact K0 #[] | exact K0 (.cells #[] 0) #[] | exact K0 #[] #[]) (by repeat (with_reducible first | exact K0 | exact K0 _ | exact K0 _ _ | apply Blk.alloc | apply Blk.drew | apply Blk.drewN | apply Blk.set6_0 | apply Blk.set6_1 | apply Blk.set6_2 | apply Blk.set6_3 | apply Blk.set6_4 | apply Blk.set6_5 | (apply Blk.off; (first | assumption | omega | (simp; omega))) | fail)) hb; (try clear cK0_0 cK0_1 cK0_2 cK0_3 cK0_4 cK0_5 fK0 lK0 nK0 mK0); obtain ⟨cK0_0, cK0_1, cK0_2, cK0_3, cK0_4, cK0_5, fK0, lK0, nK0, mK0⟩ := Blk.all6 K0; have K2 := fun cs => Blk.new w2 cs 24; have K3 := fun o cs => Blk.new1 w2 o cs 27) | fail)
  have R1 := Lib.hid (own_row HO)
  clear hb
  have cp := Lib.hid (fun W (hr : Row W A2 xs) => copy_c 3 st nx g sl A2 c2 0 xs W hr HN.out (by omega))
  go_upto_region 12 with (first | (go_at_call 10; with_reducible refine (enum_c _ _).mono ?_; rintro e w' ⟨rfl, rfl⟩) | (go_at_call 6; (with_reducible refine (cp.out _ (R1.out.below (bl_alloc (bl_alloc (Below.refl _ _) _) _))).mono ?_); rintro e w4 ⟨⟨A4, c4, rfl, R4⟩, hb⟩; have R0 := Lib.hid ((R0.out.below (bl_alloc (bl_alloc (Below.refl _ _) _) _)).below hb); have HB := bl_step (w := w) (by repeat (with_reducible first | exact HB | (refine bl_set ?_ (by omega)) | apply bl_alloc | apply bl_drew | apply bl_drewN | fail)) hb; have hzB := HB.size; have K0 := Blk.on (by first | exact K0 | exact K0 #[] | exact K0 (.cells #[] 0) #[] | exact K0 #[] #[]) (by repeat (with_reducible first | exact K0 | exact K0 _ | exact K0 _ _ | apply Blk.alloc | apply Blk.drew | apply Blk.drewN | apply Blk.set6_0 | apply Blk.set6_1 | apply Blk.set6_2 | apply Blk.set6_3 | apply Blk.set6_4 | apply Blk.set6_5 | (apply Blk.off; (first | assumption | omega | (simp; omega))) | fail)) hb; (try clear cK0_0 cK0_1 cK0_2 cK0_3 cK0_4 cK0_5 fK0 lK0 nK0 mK0); obtain ⟨cK0_0, cK0_1, cK0_2, cK0_3, cK0_4, cK0_5, fK0, lK0, nK0, mK0⟩ := Blk.all6 K0; have K2 := Blk.on (by first | exact K2 | exact K2 #[] | exact K2 (.cells #[] 0) #[] | exact K2 #[] #[]) (by repeat (with_reducible first | exact K2 | exact K2 _ | exact K2 _ _ | apply Blk.alloc | apply Blk.drew | apply Blk.drewN | apply Blk.set6_0 | apply Blk.set6_1 | apply Blk.set6_2 | apply Blk.set6_3 | apply Blk.set6_4 | apply Blk.set6_5 | (apply Blk.off; (first | assumption | omega | (simp; omega))) | fail)) hb; (try clear cK2_0 cK2_1 cK2_2 cK2_3 cK2_4 cK2_5 fK2 lK2 nK2 mK2); obtain ⟨cK2_0, cK2_1, cK2_2, cK2_3, cK2_4, cK2_5, fK2, lK2, nK2, mK2⟩ := Blk.all6 K2; have K4 := fun cs => Blk.new w4 cs 24; have R4 := Lib.hid R4) | fail)
  go_wp2_with (first | (go_at_call 9; (with_reducible refine (sameR_c _ _ _ _ _ _ _ _ _ _ _ _ _ (R4.out.below (bl_alloc (Below.refl _ _) _)) (R0.out.below (bl_alloc (Below.refl _ _) _)) HN.out HN.out).mono ?_); rintro e w6 ⟨rfl, hb⟩; have HB := bl_step (w := w) (by repeat (with_reducible first | exact HB | (refine bl_set ?_ (by omega)) | apply bl_alloc | apply bl_drew | apply bl_drewN | fail)) hb; have hzB := HB.size; have K0 := Blk.on (by first | exact K0 | exact K0 #[] | exact K0 (.cells #[] 0) #[] | exact K0 #[] #[]) (by repeat (with_reducible first | exact K0 | exact K0 _ | exact K0 _ _ | apply Blk.alloc | apply Blk.drew | apply Blk.drewN | apply Blk.set6_0 | apply Blk.set6_1 | apply Blk.set6_2 | apply Blk.set6_3 | apply Blk.set6_4 | apply Blk.set6_5 | (apply Blk.off; (first | assumption | omega | (simp; omega))) | fail)) hb; (try clear cK0_0 cK0_1 cK0_2 cK0_3 cK0_4 cK0_5 fK0 lK0 nK0 mK0); obtain ⟨cK0_0, cK0_1, cK0_2, cK0_3, cK0_4, cK0_5, fK0, lK0, nK0, mK0⟩ := Blk.all6 K0; have K2 := Blk.on (by first | exact K2 | exact K2 #[] | exact K2 (.cells #[] 0) #[] | exact K2 #[] #[]) (by repeat (with_reducible first | exact K2 | exact K2 _ | exact K2 _ _ | apply Blk.alloc | apply Blk.drew | apply Blk.drewN | apply Blk.set6_0 | apply Blk.set6_1 | apply Blk.set6_2 | apply Blk.set6_3 | apply Blk.set6_4 | apply Blk.set6_5 | (apply Blk.off; (first | assumption | omega | (simp; omega))) | fail)) hb; (try clear cK2_0 cK2_1 cK2_2 cK2_3 cK2_4 cK2_5 fK2 lK2 nK2 mK2); obtain ⟨cK2_0, cK2_1, cK2_2, cK2_3, cK2_4, cK2_5, fK2, lK2, nK2, mK2⟩ := Blk.all6 K2) | fail)
  go_ret
  exact ⟨rfl, (by repeat (with_reducible first | exact Below.refl _ _ | assumption | (refine bl_set ?_ (by omega)) | apply bl_alloc | apply bl_drewN | apply bl_drew | (refine bl_step ?_ (by assumption)) | fail))⟩
set_option maxRecDepth 100000 in
set_option maxHeartbeats 12800000 in
theorem tells_1s (f : ByteArray) (st nx g sl : Int) (A : Option Addr) (c n : Nat) (xs : List OpV) (w : World) (hl : Row w A xs) (hn : xs.length = n) (hby : n * 32 ≤ 140737488355328) (hn0 : 0 < n)
    (hg : ∀ (W : World) (A' : Option Addr) (c' : Nat), Row W A' xs → Calls Tryz.prog 7 #[.string f, .agg #[.int .i64 1, .int .i64 st, .int .i64 nx, .int .i64 g, .int .i64 sl, .slice A' n c']] W fun e w' => (∃ A2 c2, e = .returned (.tuple #[.agg #[.int .i64 2, .int .i64 st, .int .i64 nx, .int .i64 g, .int .i64 sl, .slice A2 n c2], .agg #[.int .i64 st, .int .i64 (min (n : Int) 255), .int .i64 2], .int .i64 0]) ∧ Own w' W.heap.size A2 xs) ∧ Below W.heap.size W w') :
    Calls Tryz.prog 4 #[.string f, .agg #[.int .i64 1, .int .i64 st, .int .i64 nx, .int .i64 g, .int .i64 sl, .slice A n c]] w fun e w' => e = .returned (.bool true) ∧ Below w.heap.size w w' := by
  have HB := Below.refl w.heap.size w
  have K0 := Blk.new w #[.int .i64 1, .int .i64 st, .int .i64 nx, .int .i64 g, .int .i64 sl, .slice A n c] 24
  have g1 := Lib.hid hg
  have R0 := Lib.hid hl
  have HN := Lib.hid hn
  have z0 := Lib.hid (show ([] : List OpV).length = 0 from rfl)
  have hmn : min 255 (n : Int) = min (n : Int) 255 := by rw [Int.min_comm]
  have hn1 : ((n : Int) == 0) = false := by simp; omega
  clear hl hn hg
  go_enter Tryz.func4, Tryz.ntmps4
  go_upto_region 4 with (first | (go_at_call 12; (with_reducible refine (awake19_c _).mono ?_); rintro e w1 ⟨rfl, hb⟩; have R0 := Lib.hid ((R0.out.below (bl_alloc (Below.refl _ _) _)).below hb); have HB := bl_step (w := w) (by repeat (with_reducible first | exact HB | (refine bl_set ?_ (by omega)) | apply bl_alloc | apply bl_drew | apply bl_drewN | fail)) hb; have hzB := HB.size; have K0 := Blk.on (by first | exact K0 | exact K0 #[] | exact K0 (.cells #[] 0) #[] | exact K0 #[] #[]) (by repeat (with_reducible first | exact K0 | exact K0 _ | exact K0 _ _ | apply Blk.alloc | apply Blk.drew | apply Blk.drewN | apply Blk.set6_0 | apply Blk.set6_1 | apply Blk.set6_2 | apply Blk.set6_3 | apply Blk.set6_4 | apply Blk.set6_5 | (apply Blk.off; (first | assumption | omega | (simp; omega))) | fail)) hb; (try clear cK0_0 cK0_1 cK0_2 cK0_3 cK0_4 cK0_5 fK0 lK0 nK0 mK0); obtain ⟨cK0_0, cK0_1, cK0_2, cK0_3, cK0_4, cK0_5, fK0, lK0, nK0, mK0⟩ := Blk.all6 K0) | (go_at_call 7; (with_reducible refine (g1.out _ _ _ R0.out).mono ?_); rintro e w2 ⟨⟨A2, c2, rfl, HO⟩, hb⟩; have R0 := Lib.hid (R0.out.below hb); have HB := bl_step (w := w) (by repeat (with_reducible first | exact HB | (refine bl_set ?_ (by omega)) | apply bl_alloc | apply bl_drew | apply bl_drewN | fail)) hb; have hzB := HB.size; have K0 := Blk.on (by first | exact K0 | exact K0 #[] | exact K0 (.cells #[] 0) #[] | exact K0 #[] #[]) (by repeat (with_reducible first | exact K0 | exact K0 _ | exact K0 _ _ | apply Blk.alloc | apply Blk.drew | apply Blk.drewN | apply Blk.set6_0 | apply Blk.set6_1 | apply Blk.set6_2 | apply Blk.set6_3 | apply Blk.set6_4 | apply Blk.set6_5 | (apply Blk.off; (first | assumption | omega | (simp; omega))) | fail)) hb; (try clear cK0_0 cK0_1 cK0_2 cK0_3 cK0_4 cK0_5 fK0 lK0 nK0 mK0); obtain ⟨cK0_0, cK0_1, cK0_2, cK0_3, cK0_4, cK0_5, fK0, lK0, nK0, mK0⟩ := Blk.all6 K0; have K2 := fun cs => Blk.new w2 cs 24; have K3 := fun o cs => Blk.new1 w2 o cs 27) | fail)
  have R1 := Lib.hid (own_row HO)
  clear hb
  have cp := Lib.hid (fun W (hr : Row W A2 xs) => copy_c 2 st nx g sl A2 c2 n xs W hr HN.out (by omega))
  go_upto_region 12 with (first | (go_at_call 10; with_reducible refine (enum_c _ _).mono ?_; rintro e w' ⟨rfl, rfl⟩) | (go_at_call 6; (with_reducible refine (cp.out _ (R1.out.below (bl_alloc (bl_alloc (Below.refl _ _) _) _))).mono ?_); rintro e w4 ⟨⟨A4, c4, rfl, R4⟩, hb⟩; have R0 := Lib.hid ((R0.out.below (bl_alloc (bl_alloc (Below.refl _ _) _) _)).below hb); have HB := bl_step (w := w) (by repeat (with_reducible first | exact HB | (refine bl_set ?_ (by omega)) | apply bl_alloc | apply bl_drew | apply bl_drewN | fail)) hb; have hzB := HB.size; have K0 := Blk.on (by first | exact K0 | exact K0 #[] | exact K0 (.cells #[] 0) #[] | exact K0 #[] #[]) (by repeat (with_reducible first | exact K0 | exact K0 _ | exact K0 _ _ | apply Blk.alloc | apply Blk.drew | apply Blk.drewN | apply Blk.set6_0 | apply Blk.set6_1 | apply Blk.set6_2 | apply Blk.set6_3 | apply Blk.set6_4 | apply Blk.set6_5 | (apply Blk.off; (first | assumption | omega | (simp; omega))) | fail)) hb; (try clear cK0_0 cK0_1 cK0_2 cK0_3 cK0_4 cK0_5 fK0 lK0 nK0 mK0); obtain ⟨cK0_0, cK0_1, cK0_2, cK0_3, cK0_4, cK0_5, fK0, lK0, nK0, mK0⟩ := Blk.all6 K0; have K2 := Blk.on (by first | exact K2 | exact K2 #[] | exact K2 (.cells #[] 0) #[] | exact K2 #[] #[]) (by repeat (with_reducible first | exact K2 | exact K2 _ | exact K2 _ _ | apply Blk.alloc | apply Blk.drew | apply Blk.drewN | apply Blk.set6_0 | apply Blk.set6_1 | apply Blk.set6_2 | apply Blk.set6_3 | apply Blk.set6_4 | apply Blk.set6_5 | (apply Blk.off; (first | assumption | omega | (simp; omega))) | fail)) hb; (try clear cK2_0 cK2_1 cK2_2 cK2_3 cK2_4 cK2_5 fK2 lK2 nK2 mK2); obtain ⟨cK2_0, cK2_1, cK2_2, cK2_3, cK2_4, cK2_5, fK2, lK2, nK2, mK2⟩ := Blk.all6 K2; have K4 := fun cs => Blk.new w4 cs 24; have R4 := Lib.hid R4) | fail)
  go_wp2_with (first | (go_at_call 9; (with_reducible refine (sameR_c _ _ _ _ _ _ _ _ _ _ _ _ _ (R4.out.below (bl_alloc (Below.refl _ _) _)) (R0.out.below (bl_alloc (Below.refl _ _) _)) HN.out HN.out).mono ?_); rintro e w6 ⟨rfl, hb⟩; have HB := bl_step (w := w) (by repeat (with_reducible first | exact HB | (refine bl_set ?_ (by omega)) | apply bl_alloc | apply bl_drew | apply bl_drewN | fail)) hb; have hzB := HB.size; have K0 := Blk.on (by first | exact K0 | exact K0 #[] | exact K0 (.cells #[] 0) #[] | exact K0 #[] #[]) (by repeat (with_reducible first | exact K0 | exact K0 _ | exact K0 _ _ | apply Blk.alloc | apply Blk.drew | apply Blk.drewN | apply Blk.set6_0 | apply Blk.set6_1 | apply Blk.set6_2 | apply Blk.set6_3 | apply Blk.set6_4 | apply Blk.set6_5 | (apply Blk.off; (first | assumption | omega | (simp; omega))) | fail)) hb; (try clear cK0_0 cK0_1 cK0_2 cK0_3 cK0_4 cK0_5 fK0 lK0 nK0 mK0); obtain ⟨cK0_0, cK0_1, cK0_2, cK0_3, cK0_4, cK0_5, fK0, lK0, nK0, mK0⟩ := Blk.all6 K0; have K2 := Blk.on (by first | exact K2 | exact K2 #[] | exact K2 (.cells #[] 0) #[] | exact K2 #[] #[]) (by repeat (with_reducible first | exact K2 | exact K2 _ | exact K2 _ _ | apply Blk.alloc | apply Blk.drew | apply Blk.drewN | apply Blk.set6_0 | apply Blk.set6_1 | apply Blk.set6_2 | apply Blk.set6_3 | apply Blk.set6_4 | apply Blk.set6_5 | (apply Blk.off; (first | assumption | omega | (simp; omega))) | fail)) hb; (try clear cK2_0 cK2_1 cK2_2 cK2_3 cK2_4 cK2_5 fK2 lK2 nK2 mK2); obtain ⟨cK2_0, cK2_1, cK2_2, cK2_3, cK2_4, cK2_5, fK2, lK2, nK2, mK2⟩ := Blk.all6 K2) | fail)
  go_ret
  exact ⟨rfl, (by repeat (with_reducible first | exact Below.refl _ _ | assumption | (refine bl_set ?_ (by omega)) | apply bl_alloc | apply bl_drewN | apply bl_drew | (refine bl_step ?_ (by assumption)) | fail))⟩
set_option maxRecDepth 100000 in
set_option maxHeartbeats 12800000 in
theorem tells_4y (f : ByteArray) (st nx g sl : Int) (A : Option Addr) (c n p : Nat) (xs ys : List OpV) (w : World) (hl : Row w A xs) (hn : xs.length = n) (hby : n * 32 ≤ 140737488355328) (hp : 6 ≤ p)
    (hg : ∀ (W : World) (A' : Option Addr) (c' : Nat), Row W A' xs → Calls Tryz.prog 7 #[.string f, .agg #[.int .i64 4, .int .i64 st, .int .i64 nx, .int .i64 g, .int .i64 sl, .slice A' n c']] W fun e w' => (∃ A2 c2, e = .returned (.tuple #[.agg #[.int .i64 5, .int .i64 st, .int .i64 nx, .int .i64 g, .int .i64 sl, .slice A2 p c2], .agg #[.int .i64 st, .int .i64 (min (p : Int) 255), .int .i64 5], .int .i64 0]) ∧ Own w' W.heap.size A2 ys) ∧ Below W.heap.size W w') :
    Calls Tryz.prog 4 #[.string f, .agg #[.int .i64 4, .int .i64 st, .int .i64 nx, .int .i64 g, .int .i64 sl, .slice A n c]] w fun e w' => e = .returned (.bool true) ∧ Below w.heap.size w w' := by
  have HB := Below.refl w.heap.size w
  have K0 := Blk.new w #[.int .i64 4, .int .i64 st, .int .i64 nx, .int .i64 g, .int .i64 sl, .slice A n c] 24
  have g1 := Lib.hid hg
  have R0 := Lib.hid hl
  have HN := Lib.hid hn
  have z0 := Lib.hid (show ([] : List OpV).length = 0 from rfl)
  have hmn : min 255 (p : Int) = min (p : Int) 255 := by rw [Int.min_comm]
  clear hl hn hg
  go_enter Tryz.func4, Tryz.ntmps4
  go_upto_region 4 with (first | (go_at_call 12; (with_reducible refine (awake19_c _).mono ?_); rintro e w1 ⟨rfl, hb⟩; have R0 := Lib.hid ((R0.out.below (bl_alloc (Below.refl _ _) _)).below hb); have HB := bl_step (w := w) (by repeat (with_reducible first | exact HB | (refine bl_set ?_ (by omega)) | apply bl_alloc | apply bl_drew | apply bl_drewN | fail)) hb; have hzB := HB.size; have K0 := Blk.on (by first | exact K0 | exact K0 #[] | exact K0 (.cells #[] 0) #[] | exact K0 #[] #[]) (by repeat (with_reducible first | exact K0 | exact K0 _ | exact K0 _ _ | apply Blk.alloc | apply Blk.drew | apply Blk.drewN | apply Blk.set6_0 | apply Blk.set6_1 | apply Blk.set6_2 | apply Blk.set6_3 | apply Blk.set6_4 | apply Blk.set6_5 | (apply Blk.off; (first | assumption | omega | (simp; omega))) | fail)) hb; (try clear cK0_0 cK0_1 cK0_2 cK0_3 cK0_4 cK0_5 fK0 lK0 nK0 mK0); obtain ⟨cK0_0, cK0_1, cK0_2, cK0_3, cK0_4, cK0_5, fK0, lK0, nK0, mK0⟩ := Blk.all6 K0) | (go_at_call 7; (with_reducible refine (g1.out _ _ _ R0.out).mono ?_); rintro e w2 ⟨⟨A2, c2, rfl, HO⟩, hb⟩; have R0 := Lib.hid (R0.out.below hb); have HB := bl_step (w := w) (by repeat (with_reducible first | exact HB | (refine bl_set ?_ (by omega)) | apply bl_alloc | apply bl_drew | apply bl_drewN | fail)) hb; have hzB := HB.size; have K0 := Blk.on (by first | exact K0 | exact K0 #[] | exact K0 (.cells #[] 0) #[] | exact K0 #[] #[]) (by repeat (with_reducible first | exact K0 | exact K0 _ | exact K0 _ _ | apply Blk.alloc | apply Blk.drew | apply Blk.drewN | apply Blk.set6_0 | apply Blk.set6_1 | apply Blk.set6_2 | apply Blk.set6_3 | apply Blk.set6_4 | apply Blk.set6_5 | (apply Blk.off; (first | assumption | omega | (simp; omega))) | fail)) hb; (try clear cK0_0 cK0_1 cK0_2 cK0_3 cK0_4 cK0_5 fK0 lK0 nK0 mK0); obtain ⟨cK0_0, cK0_1, cK0_2, cK0_3, cK0_4, cK0_5, fK0, lK0, nK0, mK0⟩ := Blk.all6 K0; have K2 := fun cs => Blk.new w2 cs 24; have K3 := fun o cs => Blk.new1 w2 o cs 27) | fail)
  have R1 := Lib.hid (own_row HO)
  clear hb
  have hp' : (6 : Int) ≤ (p : Int) := by omega
  go_wp2_with (first | (go_at_call 10; with_reducible refine (enum_c _ _).mono ?_; rintro e w' ⟨rfl, rfl⟩) | fail)
  go_ret
  exact ⟨rfl, (by repeat (with_reducible first | exact Below.refl _ _ | assumption | (refine bl_set ?_ (by omega)) | apply bl_alloc | apply bl_drewN | apply bl_drew | (refine bl_step ?_ (by assumption)) | fail))⟩
set_option maxRecDepth 100000 in
set_option maxHeartbeats 12800000 in
theorem tells_4n (f : ByteArray) (st nx g sl : Int) (A : Option Addr) (c n : Nat) (xs : List OpV) (w : World) (hl : Row w A xs) (hn : xs.length = n) (hby : n * 32 ≤ 140737488355328)
    (hg : ∀ (W : World) (A' : Option Addr) (c' : Nat), Row W A' xs → Calls Tryz.prog 7 #[.string f, .agg #[.int .i64 4, .int .i64 st, .int .i64 nx, .int .i64 g, .int .i64 sl, .slice A' n c']] W fun e w' => (∃ A2 c2, e = .returned (.tuple #[.agg #[.int .i64 7, .int .i64 3, .int .i64 0, .int .i64 0, .int .i64 0, .slice A2 0 c2], .agg #[.int .i64 3, .int .i64 (min (0 : Int) 255), .int .i64 7], .int .i64 0]) ∧ Own w' W.heap.size A2 []) ∧ Below W.heap.size W w') :
    Calls Tryz.prog 4 #[.string f, .agg #[.int .i64 4, .int .i64 st, .int .i64 nx, .int .i64 g, .int .i64 sl, .slice A n c]] w fun e w' => e = .returned (.bool true) ∧ Below w.heap.size w w' := by
  have HB := Below.refl w.heap.size w
  have K0 := Blk.new w #[.int .i64 4, .int .i64 st, .int .i64 nx, .int .i64 g, .int .i64 sl, .slice A n c] 24
  have g1 := Lib.hid hg
  have R0 := Lib.hid hl
  have HN := Lib.hid hn
  have z0 := Lib.hid (show ([] : List OpV).length = 0 from rfl)
  have hmn : min 255 (0 : Int) = min (0 : Int) 255 := by rw [Int.min_comm]
  clear hl hn hg
  go_enter Tryz.func4, Tryz.ntmps4
  go_upto_region 4 with (first | (go_at_call 12; (with_reducible refine (awake19_c _).mono ?_); rintro e w1 ⟨rfl, hb⟩; have R0 := Lib.hid ((R0.out.below (bl_alloc (Below.refl _ _) _)).below hb); have HB := bl_step (w := w) (by repeat (with_reducible first | exact HB | (refine bl_set ?_ (by omega)) | apply bl_alloc | apply bl_drew | apply bl_drewN | fail)) hb; have hzB := HB.size; have K0 := Blk.on (by first | exact K0 | exact K0 #[] | exact K0 (.cells #[] 0) #[] | exact K0 #[] #[]) (by repeat (with_reducible first | exact K0 | exact K0 _ | exact K0 _ _ | apply Blk.alloc | apply Blk.drew | apply Blk.drewN | apply Blk.set6_0 | apply Blk.set6_1 | apply Blk.set6_2 | apply Blk.set6_3 | apply Blk.set6_4 | apply Blk.set6_5 | (apply Blk.off; (first | assumption | omega | (simp; omega))) | fail)) hb; (try clear cK0_0 cK0_1 cK0_2 cK0_3 cK0_4 cK0_5 fK0 lK0 nK0 mK0); obtain ⟨cK0_0, cK0_1, cK0_2, cK0_3, cK0_4, cK0_5, fK0, lK0, nK0, mK0⟩ := Blk.all6 K0) | (go_at_call 7; (with_reducible refine (g1.out _ _ _ R0.out).mono ?_); rintro e w2 ⟨⟨A2, c2, rfl, HO⟩, hb⟩; have R0 := Lib.hid (R0.out.below hb); have HB := bl_step (w := w) (by repeat (with_reducible first | exact HB | (refine bl_set ?_ (by omega)) | apply bl_alloc | apply bl_drew | apply bl_drewN | fail)) hb; have hzB := HB.size; have K0 := Blk.on (by first | exact K0 | exact K0 #[] | exact K0 (.cells #[] 0) #[] | exact K0 #[] #[]) (by repeat (with_reducible first | exact K0 | exact K0 _ | exact K0 _ _ | apply Blk.alloc | apply Blk.drew | apply Blk.drewN | apply Blk.set6_0 | apply Blk.set6_1 | apply Blk.set6_2 | apply Blk.set6_3 | apply Blk.set6_4 | apply Blk.set6_5 | (apply Blk.off; (first | assumption | omega | (simp; omega))) | fail)) hb; (try clear cK0_0 cK0_1 cK0_2 cK0_3 cK0_4 cK0_5 fK0 lK0 nK0 mK0); obtain ⟨cK0_0, cK0_1, cK0_2, cK0_3, cK0_4, cK0_5, fK0, lK0, nK0, mK0⟩ := Blk.all6 K0; have K2 := fun cs => Blk.new w2 cs 24; have K3 := fun o cs => Blk.new1 w2 o cs 27) | fail)
  have R1 := Lib.hid (own_row HO)
  clear hb
  go_wp2_with (first | (go_at_call 10; with_reducible refine (enum_c _ _).mono ?_; rintro e w' ⟨rfl, rfl⟩) | fail)
  go_ret
  exact ⟨rfl, (by repeat (with_reducible first | exact Below.refl _ _ | assumption | (refine bl_set ?_ (by omega)) | apply bl_alloc | apply bl_drewN | apply bl_drew | (refine bl_step ?_ (by assumption)) | fail))⟩
theorem tells_w (f : ByteArray) (s st nx g sl : Int) (A : Option Addr) (c n : Nat) (xs : List OpV) (w : World) (h : f.size ≤ 9223372036854775807) (hl : Row w A xs) (hn : xs.length = n) (hby : n * 32 ≤ 140737488355328) :
    Calls Tryz.prog 4 #[.string f, .agg #[.int .i64 s, .int .i64 st, .int .i64 nx, .int .i64 g, .int .i64 sl, .slice A n c]] w fun e w' => e = .returned (.bool true) ∧ Below w.heap.size w w' := by
  have G := fun (W : World) (A' : Option Addr) (c' : Nat) (hr : Row W A' xs) => get_c f ⟨s, st, nx, g, sl, xs⟩ A' c' n W h hr hn
  simp only at G
  cases hb : bothB f ⟨s, st, nx, g, sl, xs⟩
  · refine tells_f f s st nx g sl A c n xs w hl hn hby fun W A' c' hr => (G W A' c' hr).mono ?_
    rw [(get_no hb).1, (get_no hb).2]
    rintro e w' ⟨⟨A2, n2, c2, h1, h2, h3⟩, h4⟩
    obtain rfl : n2 = 0 := by rw [← h2]; rfl
    exact ⟨⟨A2, c2, h1, h3⟩, h4⟩
  · rw [(get_yes hb).1, (get_yes hb).2] at G
    by_cases h1 : s = 1
    · subst h1
      by_cases hx : xs = []
      · have hn0 : n = 0 := by rw [← hn, hx]; rfl
        subst hn0
        refine tells_1n f st nx g sl A c xs w hl hn hby fun W A' c' hr => (G W A' c' hr).mono ?_
        have hd : statD f ⟨1, st, nx, g, sl, xs⟩ = ⟨3, st, nx, g, sl, xs⟩ := by simp [statD, hx]
        rw [hd]
        rintro e w' ⟨⟨A2, n2, c2, k1, k2, k3⟩, k4⟩
        obtain rfl : n2 = 0 := by rw [← k2]; exact hn
        exact ⟨⟨A2, c2, k1, k3⟩, k4⟩
      · have hn0 : 0 < n := by rw [← hn]; exact List.length_pos_iff.2 hx
        refine tells_1s f st nx g sl A c n xs w hl hn hby hn0 fun W A' c' hr => (G W A' c' hr).mono ?_
        have hd : statD f ⟨1, st, nx, g, sl, xs⟩ = ⟨2, st, nx, g, sl, xs⟩ := by simp [statD, hx]
        rw [hd]
        rintro e w' ⟨⟨A2, n2, c2, k1, k2, k3⟩, k4⟩
        obtain rfl : n2 = n := by rw [← k2]; exact hn
        exact ⟨⟨A2, c2, k1, k3⟩, k4⟩
    · by_cases h4 : s = 4
      · subst h4
        have hd : statD f ⟨4, st, nx, g, sl, xs⟩ = commitD f ⟨4, st, nx, g, sl, xs⟩ := rfl
        rw [hd] at G
        by_cases hr0 : recE f sl g = 0
        · have hc : commitD f ⟨4, st, nx, g, sl, xs⟩ = ⟨5, st, nx, g, sl, commitL f ⟨4, st, nx, g, sl, xs⟩⟩ := by simp [commitD, hr0]
          rw [hc] at G
          have hlen : 6 ≤ (commitL f ⟨4, st, nx, g, sl, xs⟩).length := (app_len f _ _ _ _).1
          refine tells_4y f st nx g sl A c n _ xs (commitL f ⟨4, st, nx, g, sl, xs⟩) w hl hn hby hlen fun W A' c' hr => (G W A' c' hr).mono ?_
          rintro e w' ⟨⟨A2, n2, c2, k1, k2, k3⟩, k4⟩
          obtain rfl := k2
          exact ⟨⟨A2, c2, k1, k3⟩, k4⟩
        · have hc : commitD f ⟨4, st, nx, g, sl, xs⟩ = DS.fail 3 := by simp [commitD, hr0]
          rw [hc] at G
          refine tells_4n f st nx g sl A c n xs w hl hn hby fun W A' c' hr => (G W A' c' hr).mono ?_
          rintro e w' ⟨⟨A2, n2, c2, k1, k2, k3⟩, k4⟩
          obtain rfl : n2 = 0 := by rw [← k2]; rfl
          exact ⟨⟨A2, c2, k1, k3⟩, k4⟩
      · refine tells_z f s st nx g sl A c n xs w hl hn hby h1 h4 fun W A' c' hr => (G W A' c' hr).mono ?_
        have hd : statD f ⟨s, st, nx, g, sl, xs⟩ = ⟨s, st, nx, g, sl, xs⟩ := by simp [statD, h1, h4]
        rw [hd]
        rintro e w' ⟨⟨A2, n2, c2, k1, k2, k3⟩, k4⟩
        obtain rfl : n2 = n := by rw [← k2]; exact hn
        exact ⟨⟨A2, c2, k1, k3⟩, k4⟩
end Go.Proofs.YtimnhdmpfndeaaaGreat.Dv
