/- Layer 8: PlaceHome, where a record is appended: the walk (printed by gen_plt.py). -/
import Derived.Test.YtimnhdmpfndeaaaPls
namespace Go.Proofs.Ytimnhdmpfndeaaa.Pl
open Go.RowKit Go.Proofs.Ytimnhdmpfndeaaa.Kt Go.Proofs.Ytimnhdmpfndeaaa.Lw Go.Proofs.Ytimnhdmpfndeaaa.St Go.Proofs.Ytimnhdmpfndeaaa.Nm Go.Proofs.Ytimnhdmpfndeaaa.By Go.Proofs.Ytimnhdmpfndeaaa.En Go.Proofs.Ytimnhdmpfndeaaa.Jr Go.Proofs.Ytimnhdmpfndeaaa.Im Go.Proofs.Ytimnhdmpfndeaaa.Sl Go.Proofs.Ytimnhdmpfndeaaa.Gr Go.Proofs.Ytimnhdmpfndeaaa.Ops Go.Proofs.Ytimnhdmpfndeaaa.Ch Go.Proofs.Ytimnhdmpfndeaaa.Fl
set_option linter.unusedVariables false
set_option linter.unusedSimpArgs false
attribute [local irreducible] gotB goodB Cr.crcB nQ nS nZ nM placeB wholeB
/-- what is to be known of the active place and of the steps' erasing. -/
def erOk (E a : Int) (o : OpV) : Prop := (o.2.1 = 96 ∧ (E = 701 ∨ E = 0 ∧ a / 96 = 0)) ∨ (o.2.1 = 0 ∧ E = 0 ∧ a / 96 = 1)
set_option maxRecDepth 100000 in
set_option maxHeartbeats 12800000 in
theorem phome_6 (f FX S : ByteArray) (q s z m : Int) (a q1 s1 z1 m1 E : Int) (OL : List OpV) (k : Nat) (w : World)
    (hf : f.size = 768) (hX : FX.size = 768) (hS : S.size = 24) (hk : k ≤ 168) (hE : E = 0 ∨ E = 701) (ha0 : 0 ≤ a) (ha1 : a ≤ 168)
    (hac : ∀ W : World, Calls Try.prog 18 #[.string f] W fun e w' => e = .returned (.tuple #[.agg #[.int .i64 a, .int .i64 q1, .int .i64 s1, .int .i64 z1, .int .i64 m1], .int .i64 E]) ∧ Below W.heap.size W w')
    (hap : ∀ W : World, Calls Try.prog 12 #[.string f, .agg #[.int .i64 q, .int .i64 s, .int .i64 z, .int .i64 m]] W fun e w' => ∃ A c, e = .returned (.tuple #[.slice A 6 c, .int .i64 0]) ∧ Lies encOp 3 w' A OL ∧ Below W.heap.size W w')
    (hpt : ∀ W : World, Calls Try.prog 25 #[.agg #[.int .i64 q, .int .i64 s, .int .i64 z, .int .i64 m]] W fun e w' => e = .returned (.tuple #[.string S, .int .i64 0]) ∧ Below W.heap.size W w')
    (hn : OL.length = 6) (hm : MayL OL) (hfx : allB f OL = FX)
    (h0 : ∃ o, OL[0]? = some o ∧ o.1 = false) (hw : ∀ (i : Nat) (o : OpV), OL[i]? = some o → o.1 = false)
    (hb : ∃ o, OL[0]? = some o ∧ o.2.1 = (k : Int)) (hx1 : FX.extract 192 768 = f.extract 192 768) (hx2 : FX.extract k (k + 24) = S) (hx3 : ∀ j : Nat, E = 0 → a = (j : Int) → FX.extract j (j + 24) = f.extract j (j + 24)) :
    Calls Try.prog 6 #[.string f, .agg #[.int .i64 q, .int .i64 s, .int .i64 z, .int .i64 m]] w fun e w' => e = .returned (.bool true) ∧ Below w.heap.size w w' := by
  have HB := Below.refl w.heap.size w
  have K0 := Blk.new w #[.int .i64 q, .int .i64 s, .int .i64 z, .int .i64 m] 23
  have ac := Lib.hid hac
  have ap := Lib.hid hap
  have pt := Lib.hid hpt
  have HN := Lib.hid hn
  have HM := Lib.hid hm
  have HFX := Lib.hid hfx
  have H0 := Lib.hid h0
  have HW := Lib.hid hw
  have HBK := Lib.hid hb
  have HX1 := Lib.hid hx1
  have HX2 := Lib.hid hx2
  have HX3 := Lib.hid hx3
  have HE := Lib.hid hE
  clear hac hap hpt hn hm hfx h0 hw hb hx1 hx2 hx3 hE
  go_enter Try.func6, Try.ntmps6
  go_upto_region 4 with (first | (go_at_call 17; with_reducible refine (awake_c _).mono ?_; rintro e w' ⟨rfl, hb⟩; have HB := bl_step (w := w) (by repeat (with_reducible first | exact HB | (refine bl_set ?_ (by omega)) | apply bl_alloc | apply bl_drew | apply bl_drewN | fail)) hb; have hzB := HB.size; have K0 := Blk.on (by first | exact K0 | exact K0 #[] | exact K0 (.cells #[] 0) #[]) (by repeat (with_reducible first | exact K0 | exact K0 _ | exact K0 _ _ | apply Blk.alloc | apply Blk.drew | apply Blk.drewN | apply Blk.set4_0 | apply Blk.set4_1 | apply Blk.set4_2 | apply Blk.set4_3 | (apply Blk.off; (first | assumption | omega | (simp; omega))) | fail)) hb; (try clear cK0_0 cK0_1 cK0_2 cK0_3 fK0 lK0 nK0 mK0); obtain ⟨cK0_0, cK0_1, cK0_2, cK0_3, fK0, lK0, nK0, mK0⟩ := Blk.all4 K0) | (go_at_call 18; with_reducible refine (ac.out _).mono ?_; rintro e w' ⟨rfl, hb⟩; have HB := bl_step (w := w) (by repeat (with_reducible first | exact HB | (refine bl_set ?_ (by omega)) | apply bl_alloc | apply bl_drew | apply bl_drewN | fail)) hb; have hzB := HB.size; have K0 := Blk.on (by first | exact K0 | exact K0 #[] | exact K0 (.cells #[] 0) #[]) (by repeat (with_reducible first | exact K0 | exact K0 _ | exact K0 _ _ | apply Blk.alloc | apply Blk.drew | apply Blk.drewN | apply Blk.set4_0 | apply Blk.set4_1 | apply Blk.set4_2 | apply Blk.set4_3 | (apply Blk.off; (first | assumption | omega | (simp; omega))) | fail)) hb; (try clear cK0_0 cK0_1 cK0_2 cK0_3 fK0 lK0 nK0 mK0); obtain ⟨cK0_0, cK0_1, cK0_2, cK0_3, fK0, lK0, nK0, mK0⟩ := Blk.all4 K0; have K1 := fun cs => Blk.new w' cs 40) | fail)
  go_upto_region 7 with (first | (go_at_call 12; (with_reducible refine (ap.out _).mono ?_); rintro e w3 ⟨A, c, rfl, hL, hb⟩; have HB := bl_step (w := w) (by repeat (with_reducible first | exact HB | (refine bl_set ?_ (by omega)) | apply bl_alloc | apply bl_drew | apply bl_drewN | fail)) hb; have hzB := HB.size; have K0 := Blk.on (by first | exact K0 | exact K0 #[] | exact K0 (.cells #[] 0) #[]) (by repeat (with_reducible first | exact K0 | exact K0 _ | exact K0 _ _ | apply Blk.alloc | apply Blk.drew | apply Blk.drewN | apply Blk.set4_0 | apply Blk.set4_1 | apply Blk.set4_2 | apply Blk.set4_3 | (apply Blk.off; (first | assumption | omega | (simp; omega))) | fail)) hb; (try clear cK0_0 cK0_1 cK0_2 cK0_3 fK0 lK0 nK0 mK0); obtain ⟨cK0_0, cK0_1, cK0_2, cK0_3, fK0, lK0, nK0, mK0⟩ := Blk.all4 K0; have K1 := Blk.on (by first | exact K1 | exact K1 #[] | exact K1 (.cells #[] 0) #[]) (by repeat (with_reducible first | exact K1 | exact K1 _ | exact K1 _ _ | apply Blk.alloc | apply Blk.drew | apply Blk.drewN | apply Blk.set5_0 | apply Blk.set5_1 | apply Blk.set5_2 | apply Blk.set5_3 | apply Blk.set5_4 | (apply Blk.off; (first | assumption | omega | (simp; omega))) | fail)) hb; (try clear cK1_0 cK1_1 cK1_2 cK1_3 cK1_4 fK1 lK1 nK1 mK1); obtain ⟨cK1_0, cK1_1, cK1_2, cK1_3, cK1_4, fK1, lK1, nK1, mK1⟩ := Blk.all5 K1) | (go_at_call 14; with_reducible refine (enum_c _ _).mono ?_; rintro e w' ⟨rfl, rfl⟩) | fail)
  have R0 := row_of hL (by rw [HN.out]; decide) HM.out
  obtain ⟨b, off, x0, rfl, hbs, hx0, hok0, c0, c1, c2⟩ := R0.at_ (j := 0) (by rw [HN.out]; decide)
  have h01 : x0.1 = false := by
    obtain ⟨o, ho, ho1⟩ := H0.out
    rw [hx0] at ho
    injection ho with ho
    rw [ho]
    exact ho1
  rw [h01] at c0
  simp only [Nat.zero_mul, Nat.add_zero] at c0
  clear hL hx0 hok0 c1 c2 h01 hb
  go_upto_region 11 with (first | fail)
  have BK0 : Aside (Blk w3 w.heap.size #[.int .i64 q, .int .i64 s, .int .i64 z, .int .i64 m] 23) := K0
  have BK1 : Aside (Blk w3 w'.heap.size #[.int .i64 a, .int .i64 q1, .int .i64 s1, .int .i64 z1, .int .i64 m1] 40) := K1
  clear c0 hbs K0 K1 cK0_0 cK0_1 cK0_2 cK0_3 fK0 lK0 nK0 mK0 cK1_0 cK1_1 cK1_2 cK1_3 cK1_4 fK1 lK1 nK1 mK1 hzB
  have fH := Lib.hid (Nat.le_refl w.heap.size)
  generalize w'.heap.size = g1 at *
  go_loopg [9, 10] 6 (fun gg s9 s10 wr => ∃ (i : Nat) (j : Int), j = (i : Int) ∧ i ≤ 6 ∧ 6 - i ≤ gg ∧ s10 = .int .i64 j ∧ s9 = .string (allB f (OL.take i)) ∧ Aside (Below w.heap.size w wr) ∧ Aside (Blk wr w.heap.size #[.int .i64 q, .int .i64 s, .int .i64 z, .int .i64 m] 23) ∧ Aside (Blk wr g1 #[.int .i64 a, .int .i64 q1, .int .i64 s1, .int .i64 z1, .int .i64 m1] 40) ∧ Aside (Row wr (some ⟨b, off, none⟩) OL))
  case atStart => exact ⟨0, 0, rfl, by omega, by omega, rfl, rfl, HB, BK0, BK1, R0⟩
  case round =>
    clear HB BK0 BK1 R0
    obtain ⟨i, j, hj, hi, hg, rfl, rfl, BW, BA, BB, BR⟩ := hrel
    have HB := BW.out
    have K0 := BA.out
    obtain ⟨cK0_0, cK0_1, cK0_2, cK0_3, fK0, lK0, nK0, mK0⟩ := Blk.all4 K0
    have K1 := BB.out
    obtain ⟨cK1_0, cK1_1, cK1_2, cK1_3, cK1_4, fK1, lK1, nK1, mK1⟩ := Blk.all5 K1
    clear BW BA BB
    by_cases hlt : i < 6
    · obtain ⟨b2, off2, x, hbo, hbs, hx, hok, c0, c1, c2⟩ := BR.out.at_ (j := i) (by rw [HN.out]; exact hlt)
      injection hbo with hbo
      injection hbo with hb1 hb2 _
      subst hb1 hb2
      have hmx := HM.out x (List.mem_of_getElem? hx)
      have hsz := all_size hf (HM.out.take i)
      have NX := Lib.hid (all_next (f := f) hx)
      have dd := Lib.hid (fun W : World => rdo_c (allB f (OL.take i)) x W (by omega) hok)
      rw [do_yes hsz hmx.1] at dd
      have hxf := HW.out i x hx
      subst hj
      rw [hxf] at c0 dd
      have hi3 : (i : Int) < 6 := by omega
      have hi00 : (0 : Int) ≤ (i : Int) := by omega
      clear hx hok hmx hsz hxf
      go_upto_region 13 with (first | fail)
      have r0 := fun s : Wld wr => Wld.cell c0 s
      have qK0_0 := fun s : Wld _ => Wld.cell cK0_0 s; have qK0_1 := fun s : Wld _ => Wld.cell cK0_1 s; have qK0_2 := fun s : Wld _ => Wld.cell cK0_2 s; have qK0_3 := fun s : Wld _ => Wld.cell cK0_3 s; have qK1_0 := fun s : Wld _ => Wld.cell cK1_0 s; have qK1_1 := fun s : Wld _ => Wld.cell cK1_1 s; have qK1_2 := fun s : Wld _ => Wld.cell cK1_2 s; have qK1_3 := fun s : Wld _ => Wld.cell cK1_3 s; have qK1_4 := fun s : Wld _ => Wld.cell cK1_4 s
      refine wld_lit (by kernel_rfl) (by kernel_rfl) ?_
      repeat (go_big_quiet_step (first | fail))
      clear r0
      refine wpQuiet_nil ?_; refine Wld.elim ?_; intro w' hb; clear qK0_0 qK0_1 qK0_2 qK0_3 qK1_0 qK1_1 qK1_2 qK1_3 qK1_4; have HB := bl_step (w := w) (by repeat (with_reducible first | exact HB | (refine bl_set ?_ (by omega)) | apply bl_alloc | apply bl_drew | apply bl_drewN | fail)) hb; have hzB := HB.size; have K0 := Blk.on (by first | exact K0 | exact K0 #[] | exact K0 (.cells #[] 0) #[]) (by repeat (with_reducible first | exact K0 | exact K0 _ | exact K0 _ _ | apply Blk.alloc | apply Blk.drew | apply Blk.drewN | apply Blk.set4_0 | apply Blk.set4_1 | apply Blk.set4_2 | apply Blk.set4_3 | (apply Blk.off; (first | assumption | omega | (simp; omega))) | fail)) hb; (try clear cK0_0 cK0_1 cK0_2 cK0_3 fK0 lK0 nK0 mK0); obtain ⟨cK0_0, cK0_1, cK0_2, cK0_3, fK0, lK0, nK0, mK0⟩ := Blk.all4 K0; have K1 := Blk.on (by first | exact K1 | exact K1 #[] | exact K1 (.cells #[] 0) #[]) (by repeat (with_reducible first | exact K1 | exact K1 _ | exact K1 _ _ | apply Blk.alloc | apply Blk.drew | apply Blk.drewN | apply Blk.set5_0 | apply Blk.set5_1 | apply Blk.set5_2 | apply Blk.set5_3 | apply Blk.set5_4 | (apply Blk.off; (first | assumption | omega | (simp; omega))) | fail)) hb; (try clear cK1_0 cK1_1 cK1_2 cK1_3 cK1_4 fK1 lK1 nK1 mK1); obtain ⟨cK1_0, cK1_1, cK1_2, cK1_3, cK1_4, fK1, lK1, nK1, mK1⟩ := Blk.all5 K1
      have BR2 := BR.out.below hb
      have d0 := cb hb c0
      have d1 := cb hb c1
      have d2 := cb hb c2
      clear hb BR c0 c1 c2
      go_wp2_with (first | (go_at_call 21; (with_reducible refine (dd.out _).mono ?_); rintro e w5 ⟨rfl, hb⟩; have HB := bl_step (w := w) (by repeat (with_reducible first | exact HB | (refine bl_set ?_ (by omega)) | apply bl_alloc | apply bl_drew | apply bl_drewN | fail)) hb; have hzB := HB.size; have K0 := Blk.on (by first | exact K0 | exact K0 #[] | exact K0 (.cells #[] 0) #[]) (by repeat (with_reducible first | exact K0 | exact K0 _ | exact K0 _ _ | apply Blk.alloc | apply Blk.drew | apply Blk.drewN | apply Blk.set4_0 | apply Blk.set4_1 | apply Blk.set4_2 | apply Blk.set4_3 | (apply Blk.off; (first | assumption | omega | (simp; omega))) | fail)) hb; (try clear cK0_0 cK0_1 cK0_2 cK0_3 fK0 lK0 nK0 mK0); obtain ⟨cK0_0, cK0_1, cK0_2, cK0_3, fK0, lK0, nK0, mK0⟩ := Blk.all4 K0; have K1 := Blk.on (by first | exact K1 | exact K1 #[] | exact K1 (.cells #[] 0) #[]) (by repeat (with_reducible first | exact K1 | exact K1 _ | exact K1 _ _ | apply Blk.alloc | apply Blk.drew | apply Blk.drewN | apply Blk.set5_0 | apply Blk.set5_1 | apply Blk.set5_2 | apply Blk.set5_3 | apply Blk.set5_4 | (apply Blk.off; (first | assumption | omega | (simp; omega))) | fail)) hb; (try clear cK1_0 cK1_1 cK1_2 cK1_3 cK1_4 fK1 lK1 nK1 mK1); obtain ⟨cK1_0, cK1_1, cK1_2, cK1_3, cK1_4, fK1, lK1, nK1, mK1⟩ := Blk.all5 K1) | fail)
      go_roundg (6 - (i + 1))
      case measure => omega
      case rel => exact ⟨i + 1, (i : Int) + 1, by omega, by omega, by omega, by go_num, (by rw [NX.out]), HB, K0, K1, BR2.below hb⟩
    · obtain rfl : i = 6 := by omega
      have he : allB f (OL.take 6) = FX := by
        rw [List.take_of_length_le (by rw [HN.out]; decide)]
        exact HFX.out
      rw [he]
      subst hj
      obtain ⟨b2, off2, x, hbo, hbs, hx, hok, c0, c1, c2⟩ := BR.out.at_ (j := 0) (by rw [HN.out]; decide)
      injection hbo with hbo
      injection hbo with hb1 hb2 _
      subst hb1 hb2
      have hxk : x.2.1 = (k : Int) := by
        obtain ⟨o, ho, ho1⟩ := HBK.out
        rw [hx] at ho
        injection ho with ho
        rw [ho]
        exact ho1
      rw [hxk] at c1
      simp only [Nat.zero_mul, Nat.one_mul, Nat.add_zero] at c1
      clear hx hok hxk c0 c2 he BR hbs hlt hi hg
      have v1 : (k : Int) ≤ 168 := by omega
      have v2 : (k : Int) + 24 ≤ 768 := by omega
      have v3 : k + 24 ≤ 768 := by omega
      have v4 : (k : Int) ≤ 768 := by omega
      have v5 : k ≤ 768 := by omega
      have v6 : decide ((k : Int) < 0) = false := by simp
      have v7 : decide (168 < (k : Int)) = false := by simp; omega
      have e1 := HX1.out
      have e2 := HX2.out
      go_upto_region 21 with (first | (go_at_call 25; with_reducible refine (pt.out _).mono ?_; rintro e w' ⟨rfl, hb⟩; have HB := bl_step (w := w) (by repeat (with_reducible first | exact HB | (refine bl_set ?_ (by omega)) | apply bl_alloc | apply bl_drew | apply bl_drewN | fail)) hb; have hzB := HB.size; have K0 := Blk.on (by first | exact K0 | exact K0 #[] | exact K0 (.cells #[] 0) #[]) (by repeat (with_reducible first | exact K0 | exact K0 _ | exact K0 _ _ | apply Blk.alloc | apply Blk.drew | apply Blk.drewN | apply Blk.set4_0 | apply Blk.set4_1 | apply Blk.set4_2 | apply Blk.set4_3 | (apply Blk.off; (first | assumption | omega | (simp; omega))) | fail)) hb; (try clear cK0_0 cK0_1 cK0_2 cK0_3 fK0 lK0 nK0 mK0); obtain ⟨cK0_0, cK0_1, cK0_2, cK0_3, fK0, lK0, nK0, mK0⟩ := Blk.all4 K0; have K1 := Blk.on (by first | exact K1 | exact K1 #[] | exact K1 (.cells #[] 0) #[]) (by repeat (with_reducible first | exact K1 | exact K1 _ | exact K1 _ _ | apply Blk.alloc | apply Blk.drew | apply Blk.drewN | apply Blk.set5_0 | apply Blk.set5_1 | apply Blk.set5_2 | apply Blk.set5_3 | apply Blk.set5_4 | (apply Blk.off; (first | assumption | omega | (simp; omega))) | fail)) hb; (try clear cK1_0 cK1_1 cK1_2 cK1_3 cK1_4 fK1 lK1 nK1 mK1); obtain ⟨cK1_0, cK1_1, cK1_2, cK1_3, cK1_4, fK1, lK1, nK1, mK1⟩ := Blk.all5 K1) | fail)
      have c1w := cb hb c1
      clear c1 hb hzB
      have qK0_0 := fun s : Wld _ => Wld.cell cK0_0 s; have qK0_1 := fun s : Wld _ => Wld.cell cK0_1 s; have qK0_2 := fun s : Wld _ => Wld.cell cK0_2 s; have qK0_3 := fun s : Wld _ => Wld.cell cK0_3 s; have qK1_0 := fun s : Wld _ => Wld.cell cK1_0 s; have qK1_1 := fun s : Wld _ => Wld.cell cK1_1 s; have qK1_2 := fun s : Wld _ => Wld.cell cK1_2 s; have qK1_3 := fun s : Wld _ => Wld.cell cK1_3 s; have qK1_4 := fun s : Wld _ => Wld.cell cK1_4 s
      refine wld_lit (by kernel_rfl) (by kernel_rfl) ?_
      repeat (go_big_quiet_step (first | fail))
      refine wpQuiet_nil ?_; refine Wld.elim ?_; intro w' hb; clear qK0_0 qK0_1 qK0_2 qK0_3 qK1_0 qK1_1 qK1_2 qK1_3 qK1_4; have HB := bl_step (w := w) (by repeat (with_reducible first | exact HB | (refine bl_set ?_ (by omega)) | apply bl_alloc | apply bl_drew | apply bl_drewN | fail)) hb; have hzB := HB.size; have K0 := Blk.on (by first | exact K0 | exact K0 #[] | exact K0 (.cells #[] 0) #[]) (by repeat (with_reducible first | exact K0 | exact K0 _ | exact K0 _ _ | apply Blk.alloc | apply Blk.drew | apply Blk.drewN | apply Blk.set4_0 | apply Blk.set4_1 | apply Blk.set4_2 | apply Blk.set4_3 | (apply Blk.off; (first | assumption | omega | (simp; omega))) | fail)) hb; (try clear cK0_0 cK0_1 cK0_2 cK0_3 fK0 lK0 nK0 mK0); obtain ⟨cK0_0, cK0_1, cK0_2, cK0_3, fK0, lK0, nK0, mK0⟩ := Blk.all4 K0; have K1 := Blk.on (by first | exact K1 | exact K1 #[] | exact K1 (.cells #[] 0) #[]) (by repeat (with_reducible first | exact K1 | exact K1 _ | exact K1 _ _ | apply Blk.alloc | apply Blk.drew | apply Blk.drewN | apply Blk.set5_0 | apply Blk.set5_1 | apply Blk.set5_2 | apply Blk.set5_3 | apply Blk.set5_4 | (apply Blk.off; (first | assumption | omega | (simp; omega))) | fail)) hb; (try clear cK1_0 cK1_1 cK1_2 cK1_3 cK1_4 fK1 lK1 nK1 mK1); obtain ⟨cK1_0, cK1_1, cK1_2, cK1_3, cK1_4, fK1, lK1, nK1, mK1⟩ := Blk.all5 K1
      clear c1w e1 e2 v1 v2 v3 v4 v5 v6 v7
      rcases HE.out with rfl | rfl
      · obtain ⟨l, rfl⟩ := Int.eq_ofNat_of_zero_le ha0
        have l1 : (l : Int) + 24 ≤ 768 := by omega
        have l2 : l + 24 ≤ 768 := by omega
        have l3 : (l : Int) ≤ 768 := by omega
        have l4 : l ≤ 768 := by omega
        have e3 := HX3.out l rfl rfl
        go_upto_region 23 with (first | fail)
        have qK1_0 := fun s : Wld _ => Wld.cell cK1_0 s; have qK1_1 := fun s : Wld _ => Wld.cell cK1_1 s; have qK1_2 := fun s : Wld _ => Wld.cell cK1_2 s; have qK1_3 := fun s : Wld _ => Wld.cell cK1_3 s; have qK1_4 := fun s : Wld _ => Wld.cell cK1_4 s
        refine wld_lit (by kernel_rfl) (by kernel_rfl) ?_
        repeat (go_big_quiet_step (first | fail))
        refine wpQuiet_nil ?_; refine Wld.elim ?_; intro w' hb; clear qK1_0 qK1_1 qK1_2 qK1_3 qK1_4; have HB := bl_step (w := w) (by repeat (with_reducible first | exact HB | (refine bl_set ?_ (by omega)) | apply bl_alloc | apply bl_drew | apply bl_drewN | fail)) hb; have hzB := HB.size; have K1 := Blk.on (by first | exact K1 | exact K1 #[] | exact K1 (.cells #[] 0) #[]) (by repeat (with_reducible first | exact K1 | exact K1 _ | exact K1 _ _ | apply Blk.alloc | apply Blk.drew | apply Blk.drewN | apply Blk.set5_0 | apply Blk.set5_1 | apply Blk.set5_2 | apply Blk.set5_3 | apply Blk.set5_4 | (apply Blk.off; (first | assumption | omega | (simp; omega))) | fail)) hb; (try clear cK1_0 cK1_1 cK1_2 cK1_3 cK1_4 fK1 lK1 nK1 mK1); obtain ⟨cK1_0, cK1_1, cK1_2, cK1_3, cK1_4, fK1, lK1, nK1, mK1⟩ := Blk.all5 K1
        go_wp2_with fail
        go_ret
        exact ⟨rfl, HB⟩
      · go_upto_region 23 with (first | fail)
        have qK1_0 := fun s : Wld _ => Wld.cell cK1_0 s; have qK1_1 := fun s : Wld _ => Wld.cell cK1_1 s; have qK1_2 := fun s : Wld _ => Wld.cell cK1_2 s; have qK1_3 := fun s : Wld _ => Wld.cell cK1_3 s; have qK1_4 := fun s : Wld _ => Wld.cell cK1_4 s
        refine wld_lit (by kernel_rfl) (by kernel_rfl) ?_
        repeat (go_big_quiet_step (first | fail))
        refine wpQuiet_nil ?_; refine Wld.elim ?_; intro w' hb; clear qK1_0 qK1_1 qK1_2 qK1_3 qK1_4; have HB := bl_step (w := w) (by repeat (with_reducible first | exact HB | (refine bl_set ?_ (by omega)) | apply bl_alloc | apply bl_drew | apply bl_drewN | fail)) hb; have hzB := HB.size; have K1 := Blk.on (by first | exact K1 | exact K1 #[] | exact K1 (.cells #[] 0) #[]) (by repeat (with_reducible first | exact K1 | exact K1 _ | exact K1 _ _ | apply Blk.alloc | apply Blk.drew | apply Blk.drewN | apply Blk.set5_0 | apply Blk.set5_1 | apply Blk.set5_2 | apply Blk.set5_3 | apply Blk.set5_4 | (apply Blk.off; (first | assumption | omega | (simp; omega))) | fail)) hb; (try clear cK1_0 cK1_1 cK1_2 cK1_3 cK1_4 fK1 lK1 nK1 mK1); obtain ⟨cK1_0, cK1_1, cK1_2, cK1_3, cK1_4, fK1, lK1, nK1, mK1⟩ := Blk.all5 K1
        go_wp2_with fail
        go_ret
        exact ⟨rfl, HB⟩
set_option maxRecDepth 100000 in
set_option maxHeartbeats 12800000 in
theorem phome_7 (f FX S : ByteArray) (q s z m : Int) (a q1 s1 z1 m1 E : Int) (OL : List OpV) (k : Nat) (w : World)
    (hf : f.size = 768) (hX : FX.size = 768) (hS : S.size = 24) (hk : k ≤ 168) (hE : E = 0 ∨ E = 701) (ha0 : 0 ≤ a) (ha1 : a ≤ 168)
    (hac : ∀ W : World, Calls Try.prog 18 #[.string f] W fun e w' => e = .returned (.tuple #[.agg #[.int .i64 a, .int .i64 q1, .int .i64 s1, .int .i64 z1, .int .i64 m1], .int .i64 E]) ∧ Below W.heap.size W w')
    (hap : ∀ W : World, Calls Try.prog 12 #[.string f, .agg #[.int .i64 q, .int .i64 s, .int .i64 z, .int .i64 m]] W fun e w' => ∃ A c, e = .returned (.tuple #[.slice A 7 c, .int .i64 0]) ∧ Lies encOp 3 w' A OL ∧ Below W.heap.size W w')
    (hpt : ∀ W : World, Calls Try.prog 25 #[.agg #[.int .i64 q, .int .i64 s, .int .i64 z, .int .i64 m]] W fun e w' => e = .returned (.tuple #[.string S, .int .i64 0]) ∧ Below W.heap.size W w')
    (hn : OL.length = 7) (hm : MayL OL) (hfx : allB f OL = FX)
    (h0 : ∃ o, OL[0]? = some o ∧ o.1 = true ∧ erOk E a o) (hw : ∀ (i : Nat) (o : OpV), 0 < i → OL[i]? = some o → o.1 = false)
    (hb : ∃ o, OL[1]? = some o ∧ o.2.1 = (k : Int)) (hx1 : FX.extract 192 768 = f.extract 192 768) (hx2 : FX.extract k (k + 24) = S) (hx3 : ∀ j : Nat, E = 0 → a = (j : Int) → FX.extract j (j + 24) = f.extract j (j + 24)) :
    Calls Try.prog 6 #[.string f, .agg #[.int .i64 q, .int .i64 s, .int .i64 z, .int .i64 m]] w fun e w' => e = .returned (.bool true) ∧ Below w.heap.size w w' := by
  have HB := Below.refl w.heap.size w
  have K0 := Blk.new w #[.int .i64 q, .int .i64 s, .int .i64 z, .int .i64 m] 23
  have ac := Lib.hid hac
  have ap := Lib.hid hap
  have pt := Lib.hid hpt
  have HN := Lib.hid hn
  have HM := Lib.hid hm
  have HFX := Lib.hid hfx
  have H0 := Lib.hid h0
  have HW := Lib.hid hw
  have HBK := Lib.hid hb
  have HX1 := Lib.hid hx1
  have HX2 := Lib.hid hx2
  have HX3 := Lib.hid hx3
  have HE := Lib.hid hE
  clear hac hap hpt hn hm hfx h0 hw hb hx1 hx2 hx3 hE
  go_enter Try.func6, Try.ntmps6
  go_upto_region 4 with (first | (go_at_call 17; with_reducible refine (awake_c _).mono ?_; rintro e w' ⟨rfl, hb⟩; have HB := bl_step (w := w) (by repeat (with_reducible first | exact HB | (refine bl_set ?_ (by omega)) | apply bl_alloc | apply bl_drew | apply bl_drewN | fail)) hb; have hzB := HB.size; have K0 := Blk.on (by first | exact K0 | exact K0 #[] | exact K0 (.cells #[] 0) #[]) (by repeat (with_reducible first | exact K0 | exact K0 _ | exact K0 _ _ | apply Blk.alloc | apply Blk.drew | apply Blk.drewN | apply Blk.set4_0 | apply Blk.set4_1 | apply Blk.set4_2 | apply Blk.set4_3 | (apply Blk.off; (first | assumption | omega | (simp; omega))) | fail)) hb; (try clear cK0_0 cK0_1 cK0_2 cK0_3 fK0 lK0 nK0 mK0); obtain ⟨cK0_0, cK0_1, cK0_2, cK0_3, fK0, lK0, nK0, mK0⟩ := Blk.all4 K0) | (go_at_call 18; with_reducible refine (ac.out _).mono ?_; rintro e w' ⟨rfl, hb⟩; have HB := bl_step (w := w) (by repeat (with_reducible first | exact HB | (refine bl_set ?_ (by omega)) | apply bl_alloc | apply bl_drew | apply bl_drewN | fail)) hb; have hzB := HB.size; have K0 := Blk.on (by first | exact K0 | exact K0 #[] | exact K0 (.cells #[] 0) #[]) (by repeat (with_reducible first | exact K0 | exact K0 _ | exact K0 _ _ | apply Blk.alloc | apply Blk.drew | apply Blk.drewN | apply Blk.set4_0 | apply Blk.set4_1 | apply Blk.set4_2 | apply Blk.set4_3 | (apply Blk.off; (first | assumption | omega | (simp; omega))) | fail)) hb; (try clear cK0_0 cK0_1 cK0_2 cK0_3 fK0 lK0 nK0 mK0); obtain ⟨cK0_0, cK0_1, cK0_2, cK0_3, fK0, lK0, nK0, mK0⟩ := Blk.all4 K0; have K1 := fun cs => Blk.new w' cs 40) | fail)
  go_upto_region 7 with (first | (go_at_call 12; (with_reducible refine (ap.out _).mono ?_); rintro e w3 ⟨A, c, rfl, hL, hb⟩; have HB := bl_step (w := w) (by repeat (with_reducible first | exact HB | (refine bl_set ?_ (by omega)) | apply bl_alloc | apply bl_drew | apply bl_drewN | fail)) hb; have hzB := HB.size; have K0 := Blk.on (by first | exact K0 | exact K0 #[] | exact K0 (.cells #[] 0) #[]) (by repeat (with_reducible first | exact K0 | exact K0 _ | exact K0 _ _ | apply Blk.alloc | apply Blk.drew | apply Blk.drewN | apply Blk.set4_0 | apply Blk.set4_1 | apply Blk.set4_2 | apply Blk.set4_3 | (apply Blk.off; (first | assumption | omega | (simp; omega))) | fail)) hb; (try clear cK0_0 cK0_1 cK0_2 cK0_3 fK0 lK0 nK0 mK0); obtain ⟨cK0_0, cK0_1, cK0_2, cK0_3, fK0, lK0, nK0, mK0⟩ := Blk.all4 K0; have K1 := Blk.on (by first | exact K1 | exact K1 #[] | exact K1 (.cells #[] 0) #[]) (by repeat (with_reducible first | exact K1 | exact K1 _ | exact K1 _ _ | apply Blk.alloc | apply Blk.drew | apply Blk.drewN | apply Blk.set5_0 | apply Blk.set5_1 | apply Blk.set5_2 | apply Blk.set5_3 | apply Blk.set5_4 | (apply Blk.off; (first | assumption | omega | (simp; omega))) | fail)) hb; (try clear cK1_0 cK1_1 cK1_2 cK1_3 cK1_4 fK1 lK1 nK1 mK1); obtain ⟨cK1_0, cK1_1, cK1_2, cK1_3, cK1_4, fK1, lK1, nK1, mK1⟩ := Blk.all5 K1) | (go_at_call 14; with_reducible refine (enum_c _ _).mono ?_; rintro e w' ⟨rfl, rfl⟩) | fail)
  have R0 := row_of hL (by rw [HN.out]; decide) HM.out
  obtain ⟨b, off, x0, rfl, hbs, hx0, hok0, c0, c1, c2⟩ := R0.at_ (j := 0) (by rw [HN.out]; decide)
  have h01 : x0.1 = true := by
    obtain ⟨o, ho, ho1, _⟩ := H0.out
    rw [hx0] at ho
    injection ho with ho
    rw [ho]
    exact ho1
  rw [h01] at c0
  simp only [Nat.zero_mul, Nat.add_zero] at c0
  clear hL hx0 hok0 c1 c2 h01 hb
  go_upto_region 11 with (first | fail)
  have BK0 : Aside (Blk w3 w.heap.size #[.int .i64 q, .int .i64 s, .int .i64 z, .int .i64 m] 23) := K0
  have BK1 : Aside (Blk w3 w'.heap.size #[.int .i64 a, .int .i64 q1, .int .i64 s1, .int .i64 z1, .int .i64 m1] 40) := K1
  clear c0 hbs K0 K1 cK0_0 cK0_1 cK0_2 cK0_3 fK0 lK0 nK0 mK0 cK1_0 cK1_1 cK1_2 cK1_3 cK1_4 fK1 lK1 nK1 mK1 hzB
  have fH := Lib.hid (Nat.le_refl w.heap.size)
  generalize w'.heap.size = g1 at *
  go_loopg [9, 10] 7 (fun gg s9 s10 wr => ∃ (i : Nat) (j : Int), j = (i : Int) ∧ i ≤ 7 ∧ 7 - i ≤ gg ∧ s10 = .int .i64 j ∧ s9 = .string (allB f (OL.take i)) ∧ Aside (Below w.heap.size w wr) ∧ Aside (Blk wr w.heap.size #[.int .i64 q, .int .i64 s, .int .i64 z, .int .i64 m] 23) ∧ Aside (Blk wr g1 #[.int .i64 a, .int .i64 q1, .int .i64 s1, .int .i64 z1, .int .i64 m1] 40) ∧ Aside (Row wr (some ⟨b, off, none⟩) OL))
  case atStart => exact ⟨0, 0, rfl, by omega, by omega, rfl, rfl, HB, BK0, BK1, R0⟩
  case round =>
    clear HB BK0 BK1 R0
    obtain ⟨i, j, hj, hi, hg, rfl, rfl, BW, BA, BB, BR⟩ := hrel
    have HB := BW.out
    have K0 := BA.out
    obtain ⟨cK0_0, cK0_1, cK0_2, cK0_3, fK0, lK0, nK0, mK0⟩ := Blk.all4 K0
    have K1 := BB.out
    obtain ⟨cK1_0, cK1_1, cK1_2, cK1_3, cK1_4, fK1, lK1, nK1, mK1⟩ := Blk.all5 K1
    clear BW BA BB
    by_cases hlt : i < 7
    · obtain ⟨b2, off2, x, hbo, hbs, hx, hok, c0, c1, c2⟩ := BR.out.at_ (j := i) (by rw [HN.out]; exact hlt)
      injection hbo with hbo
      injection hbo with hb1 hb2 _
      subst hb1 hb2
      have hmx := HM.out x (List.mem_of_getElem? hx)
      have hsz := all_size hf (HM.out.take i)
      have NX := Lib.hid (all_next (f := f) hx)
      have dd := Lib.hid (fun W : World => rdo_c (allB f (OL.take i)) x W (by omega) hok)
      rw [do_yes hsz hmx.1] at dd
      by_cases hi0 : i = 0
      · subst hi0
        obtain rfl : j = 0 := by omega
        obtain ⟨o, ho, ho1, ho2⟩ := H0.out
        rw [hx] at ho
        injection ho with ho
        rw [← ho] at ho1 ho2
        rw [ho1] at c0 dd
        rw [List.take_zero] at dd NX
        unfold erOk at ho2
        simp only [Nat.zero_mul, Nat.add_zero] at c0 c1 c2
        rcases ho2 with ⟨h1, h2⟩ | ⟨h1, rfl, h2⟩
        · rw [h1] at c1 dd
          rcases h2 with rfl | ⟨rfl, h2⟩
          · clear hx hok hmx hsz ho ho1 h1 hj hi
            go_upto_region 13 with (first | fail)
            have r0 := fun s : Wld wr => Wld.cell c0 s
            have r1 := fun s : Wld wr => Wld.cell c1 s
            have qK0_0 := fun s : Wld _ => Wld.cell cK0_0 s; have qK0_1 := fun s : Wld _ => Wld.cell cK0_1 s; have qK0_2 := fun s : Wld _ => Wld.cell cK0_2 s; have qK0_3 := fun s : Wld _ => Wld.cell cK0_3 s; have qK1_0 := fun s : Wld _ => Wld.cell cK1_0 s; have qK1_1 := fun s : Wld _ => Wld.cell cK1_1 s; have qK1_2 := fun s : Wld _ => Wld.cell cK1_2 s; have qK1_3 := fun s : Wld _ => Wld.cell cK1_3 s; have qK1_4 := fun s : Wld _ => Wld.cell cK1_4 s
            refine wld_lit (by kernel_rfl) (by kernel_rfl) ?_
            repeat (go_big_quiet_step (first | fail))
            clear r0 r1
            refine wpQuiet_nil ?_; refine Wld.elim ?_; intro w' hb; clear qK0_0 qK0_1 qK0_2 qK0_3 qK1_0 qK1_1 qK1_2 qK1_3 qK1_4; have HB := bl_step (w := w) (by repeat (with_reducible first | exact HB | (refine bl_set ?_ (by omega)) | apply bl_alloc | apply bl_drew | apply bl_drewN | fail)) hb; have hzB := HB.size; have K0 := Blk.on (by first | exact K0 | exact K0 #[] | exact K0 (.cells #[] 0) #[]) (by repeat (with_reducible first | exact K0 | exact K0 _ | exact K0 _ _ | apply Blk.alloc | apply Blk.drew | apply Blk.drewN | apply Blk.set4_0 | apply Blk.set4_1 | apply Blk.set4_2 | apply Blk.set4_3 | (apply Blk.off; (first | assumption | omega | (simp; omega))) | fail)) hb; (try clear cK0_0 cK0_1 cK0_2 cK0_3 fK0 lK0 nK0 mK0); obtain ⟨cK0_0, cK0_1, cK0_2, cK0_3, fK0, lK0, nK0, mK0⟩ := Blk.all4 K0; have K1 := Blk.on (by first | exact K1 | exact K1 #[] | exact K1 (.cells #[] 0) #[]) (by repeat (with_reducible first | exact K1 | exact K1 _ | exact K1 _ _ | apply Blk.alloc | apply Blk.drew | apply Blk.drewN | apply Blk.set5_0 | apply Blk.set5_1 | apply Blk.set5_2 | apply Blk.set5_3 | apply Blk.set5_4 | (apply Blk.off; (first | assumption | omega | (simp; omega))) | fail)) hb; (try clear cK1_0 cK1_1 cK1_2 cK1_3 cK1_4 fK1 lK1 nK1 mK1); obtain ⟨cK1_0, cK1_1, cK1_2, cK1_3, cK1_4, fK1, lK1, nK1, mK1⟩ := Blk.all5 K1
            have BR2 := BR.out.below hb
            have d0 := cb hb c0
            have d1 := cb hb c1
            have d2 := cb hb c2
            clear hb BR c0 c1 c2
            go_wp2_with (first | (go_at_call 21; (with_reducible refine (dd.out _).mono ?_); rintro e w5 ⟨rfl, hb⟩; have HB := bl_step (w := w) (by repeat (with_reducible first | exact HB | (refine bl_set ?_ (by omega)) | apply bl_alloc | apply bl_drew | apply bl_drewN | fail)) hb; have hzB := HB.size; have K0 := Blk.on (by first | exact K0 | exact K0 #[] | exact K0 (.cells #[] 0) #[]) (by repeat (with_reducible first | exact K0 | exact K0 _ | exact K0 _ _ | apply Blk.alloc | apply Blk.drew | apply Blk.drewN | apply Blk.set4_0 | apply Blk.set4_1 | apply Blk.set4_2 | apply Blk.set4_3 | (apply Blk.off; (first | assumption | omega | (simp; omega))) | fail)) hb; (try clear cK0_0 cK0_1 cK0_2 cK0_3 fK0 lK0 nK0 mK0); obtain ⟨cK0_0, cK0_1, cK0_2, cK0_3, fK0, lK0, nK0, mK0⟩ := Blk.all4 K0; have K1 := Blk.on (by first | exact K1 | exact K1 #[] | exact K1 (.cells #[] 0) #[]) (by repeat (with_reducible first | exact K1 | exact K1 _ | exact K1 _ _ | apply Blk.alloc | apply Blk.drew | apply Blk.drewN | apply Blk.set5_0 | apply Blk.set5_1 | apply Blk.set5_2 | apply Blk.set5_3 | apply Blk.set5_4 | (apply Blk.off; (first | assumption | omega | (simp; omega))) | fail)) hb; (try clear cK1_0 cK1_1 cK1_2 cK1_3 cK1_4 fK1 lK1 nK1 mK1); obtain ⟨cK1_0, cK1_1, cK1_2, cK1_3, cK1_4, fK1, lK1, nK1, mK1⟩ := Blk.all5 K1) | fail)
            go_roundg (7 - (0 + 1))
            case measure => omega
            case rel => exact ⟨0 + 1, 1, by omega, by omega, by omega, by go_num, (by rw [NX.out]), HB, K0, K1, BR2.below hb⟩
          · clear hx hok hmx hsz ho ho1 h1 hj hi
            go_upto_region 13 with (first | fail)
            have r0 := fun s : Wld wr => Wld.cell c0 s
            have r1 := fun s : Wld wr => Wld.cell c1 s
            have qK0_0 := fun s : Wld _ => Wld.cell cK0_0 s; have qK0_1 := fun s : Wld _ => Wld.cell cK0_1 s; have qK0_2 := fun s : Wld _ => Wld.cell cK0_2 s; have qK0_3 := fun s : Wld _ => Wld.cell cK0_3 s; have qK1_0 := fun s : Wld _ => Wld.cell cK1_0 s; have qK1_1 := fun s : Wld _ => Wld.cell cK1_1 s; have qK1_2 := fun s : Wld _ => Wld.cell cK1_2 s; have qK1_3 := fun s : Wld _ => Wld.cell cK1_3 s; have qK1_4 := fun s : Wld _ => Wld.cell cK1_4 s
            refine wld_lit (by kernel_rfl) (by kernel_rfl) ?_
            repeat (go_big_quiet_step (first | fail))
            clear r0 r1
            refine wpQuiet_nil ?_; refine Wld.elim ?_; intro w' hb; clear qK0_0 qK0_1 qK0_2 qK0_3 qK1_0 qK1_1 qK1_2 qK1_3 qK1_4; have HB := bl_step (w := w) (by repeat (with_reducible first | exact HB | (refine bl_set ?_ (by omega)) | apply bl_alloc | apply bl_drew | apply bl_drewN | fail)) hb; have hzB := HB.size; have K0 := Blk.on (by first | exact K0 | exact K0 #[] | exact K0 (.cells #[] 0) #[]) (by repeat (with_reducible first | exact K0 | exact K0 _ | exact K0 _ _ | apply Blk.alloc | apply Blk.drew | apply Blk.drewN | apply Blk.set4_0 | apply Blk.set4_1 | apply Blk.set4_2 | apply Blk.set4_3 | (apply Blk.off; (first | assumption | omega | (simp; omega))) | fail)) hb; (try clear cK0_0 cK0_1 cK0_2 cK0_3 fK0 lK0 nK0 mK0); obtain ⟨cK0_0, cK0_1, cK0_2, cK0_3, fK0, lK0, nK0, mK0⟩ := Blk.all4 K0; have K1 := Blk.on (by first | exact K1 | exact K1 #[] | exact K1 (.cells #[] 0) #[]) (by repeat (with_reducible first | exact K1 | exact K1 _ | exact K1 _ _ | apply Blk.alloc | apply Blk.drew | apply Blk.drewN | apply Blk.set5_0 | apply Blk.set5_1 | apply Blk.set5_2 | apply Blk.set5_3 | apply Blk.set5_4 | (apply Blk.off; (first | assumption | omega | (simp; omega))) | fail)) hb; (try clear cK1_0 cK1_1 cK1_2 cK1_3 cK1_4 fK1 lK1 nK1 mK1); obtain ⟨cK1_0, cK1_1, cK1_2, cK1_3, cK1_4, fK1, lK1, nK1, mK1⟩ := Blk.all5 K1
            have BR2 := BR.out.below hb
            have d0 := cb hb c0
            have d1 := cb hb c1
            have d2 := cb hb c2
            clear hb BR c0 c1 c2
            go_wp2_with (first | (go_at_call 21; (with_reducible refine (dd.out _).mono ?_); rintro e w5 ⟨rfl, hb⟩; have HB := bl_step (w := w) (by repeat (with_reducible first | exact HB | (refine bl_set ?_ (by omega)) | apply bl_alloc | apply bl_drew | apply bl_drewN | fail)) hb; have hzB := HB.size; have K0 := Blk.on (by first | exact K0 | exact K0 #[] | exact K0 (.cells #[] 0) #[]) (by repeat (with_reducible first | exact K0 | exact K0 _ | exact K0 _ _ | apply Blk.alloc | apply Blk.drew | apply Blk.drewN | apply Blk.set4_0 | apply Blk.set4_1 | apply Blk.set4_2 | apply Blk.set4_3 | (apply Blk.off; (first | assumption | omega | (simp; omega))) | fail)) hb; (try clear cK0_0 cK0_1 cK0_2 cK0_3 fK0 lK0 nK0 mK0); obtain ⟨cK0_0, cK0_1, cK0_2, cK0_3, fK0, lK0, nK0, mK0⟩ := Blk.all4 K0; have K1 := Blk.on (by first | exact K1 | exact K1 #[] | exact K1 (.cells #[] 0) #[]) (by repeat (with_reducible first | exact K1 | exact K1 _ | exact K1 _ _ | apply Blk.alloc | apply Blk.drew | apply Blk.drewN | apply Blk.set5_0 | apply Blk.set5_1 | apply Blk.set5_2 | apply Blk.set5_3 | apply Blk.set5_4 | (apply Blk.off; (first | assumption | omega | (simp; omega))) | fail)) hb; (try clear cK1_0 cK1_1 cK1_2 cK1_3 cK1_4 fK1 lK1 nK1 mK1); obtain ⟨cK1_0, cK1_1, cK1_2, cK1_3, cK1_4, fK1, lK1, nK1, mK1⟩ := Blk.all5 K1) | fail)
            go_roundg (7 - (0 + 1))
            case measure => omega
            case rel => exact ⟨0 + 1, 1, by omega, by omega, by omega, by go_num, (by rw [NX.out]), HB, K0, K1, BR2.below hb⟩
        · rw [h1] at c1 dd
          clear hx hok hmx hsz ho ho1 h1 hj hi
          go_upto_region 13 with (first | fail)
          have r0 := fun s : Wld wr => Wld.cell c0 s
          have r1 := fun s : Wld wr => Wld.cell c1 s
          have qK0_0 := fun s : Wld _ => Wld.cell cK0_0 s; have qK0_1 := fun s : Wld _ => Wld.cell cK0_1 s; have qK0_2 := fun s : Wld _ => Wld.cell cK0_2 s; have qK0_3 := fun s : Wld _ => Wld.cell cK0_3 s; have qK1_0 := fun s : Wld _ => Wld.cell cK1_0 s; have qK1_1 := fun s : Wld _ => Wld.cell cK1_1 s; have qK1_2 := fun s : Wld _ => Wld.cell cK1_2 s; have qK1_3 := fun s : Wld _ => Wld.cell cK1_3 s; have qK1_4 := fun s : Wld _ => Wld.cell cK1_4 s
          refine wld_lit (by kernel_rfl) (by kernel_rfl) ?_
          repeat (go_big_quiet_step (first | fail))
          clear r0 r1
          refine wpQuiet_nil ?_; refine Wld.elim ?_; intro w' hb; clear qK0_0 qK0_1 qK0_2 qK0_3 qK1_0 qK1_1 qK1_2 qK1_3 qK1_4; have HB := bl_step (w := w) (by repeat (with_reducible first | exact HB | (refine bl_set ?_ (by omega)) | apply bl_alloc | apply bl_drew | apply bl_drewN | fail)) hb; have hzB := HB.size; have K0 := Blk.on (by first | exact K0 | exact K0 #[] | exact K0 (.cells #[] 0) #[]) (by repeat (with_reducible first | exact K0 | exact K0 _ | exact K0 _ _ | apply Blk.alloc | apply Blk.drew | apply Blk.drewN | apply Blk.set4_0 | apply Blk.set4_1 | apply Blk.set4_2 | apply Blk.set4_3 | (apply Blk.off; (first | assumption | omega | (simp; omega))) | fail)) hb; (try clear cK0_0 cK0_1 cK0_2 cK0_3 fK0 lK0 nK0 mK0); obtain ⟨cK0_0, cK0_1, cK0_2, cK0_3, fK0, lK0, nK0, mK0⟩ := Blk.all4 K0; have K1 := Blk.on (by first | exact K1 | exact K1 #[] | exact K1 (.cells #[] 0) #[]) (by repeat (with_reducible first | exact K1 | exact K1 _ | exact K1 _ _ | apply Blk.alloc | apply Blk.drew | apply Blk.drewN | apply Blk.set5_0 | apply Blk.set5_1 | apply Blk.set5_2 | apply Blk.set5_3 | apply Blk.set5_4 | (apply Blk.off; (first | assumption | omega | (simp; omega))) | fail)) hb; (try clear cK1_0 cK1_1 cK1_2 cK1_3 cK1_4 fK1 lK1 nK1 mK1); obtain ⟨cK1_0, cK1_1, cK1_2, cK1_3, cK1_4, fK1, lK1, nK1, mK1⟩ := Blk.all5 K1
          have BR2 := BR.out.below hb
          have d0 := cb hb c0
          have d1 := cb hb c1
          have d2 := cb hb c2
          clear hb BR c0 c1 c2
          go_wp2_with (first | (go_at_call 21; (with_reducible refine (dd.out _).mono ?_); rintro e w5 ⟨rfl, hb⟩; have HB := bl_step (w := w) (by repeat (with_reducible first | exact HB | (refine bl_set ?_ (by omega)) | apply bl_alloc | apply bl_drew | apply bl_drewN | fail)) hb; have hzB := HB.size; have K0 := Blk.on (by first | exact K0 | exact K0 #[] | exact K0 (.cells #[] 0) #[]) (by repeat (with_reducible first | exact K0 | exact K0 _ | exact K0 _ _ | apply Blk.alloc | apply Blk.drew | apply Blk.drewN | apply Blk.set4_0 | apply Blk.set4_1 | apply Blk.set4_2 | apply Blk.set4_3 | (apply Blk.off; (first | assumption | omega | (simp; omega))) | fail)) hb; (try clear cK0_0 cK0_1 cK0_2 cK0_3 fK0 lK0 nK0 mK0); obtain ⟨cK0_0, cK0_1, cK0_2, cK0_3, fK0, lK0, nK0, mK0⟩ := Blk.all4 K0; have K1 := Blk.on (by first | exact K1 | exact K1 #[] | exact K1 (.cells #[] 0) #[]) (by repeat (with_reducible first | exact K1 | exact K1 _ | exact K1 _ _ | apply Blk.alloc | apply Blk.drew | apply Blk.drewN | apply Blk.set5_0 | apply Blk.set5_1 | apply Blk.set5_2 | apply Blk.set5_3 | apply Blk.set5_4 | (apply Blk.off; (first | assumption | omega | (simp; omega))) | fail)) hb; (try clear cK1_0 cK1_1 cK1_2 cK1_3 cK1_4 fK1 lK1 nK1 mK1); obtain ⟨cK1_0, cK1_1, cK1_2, cK1_3, cK1_4, fK1, lK1, nK1, mK1⟩ := Blk.all5 K1) | fail)
          go_roundg (7 - (0 + 1))
          case measure => omega
          case rel => exact ⟨0 + 1, 1, by omega, by omega, by omega, by go_num, (by rw [NX.out]), HB, K0, K1, BR2.below hb⟩
      · have hxf := HW.out i x (by omega) hx
        subst hj
        rw [hxf] at c0 dd
        have hi3 : (i : Int) < 7 := by omega
        have hi00 : (0 : Int) ≤ (i : Int) := by omega
        clear hx hok hmx hsz hxf
        go_upto_region 13 with (first | fail)
        have r0 := fun s : Wld wr => Wld.cell c0 s
        have qK0_0 := fun s : Wld _ => Wld.cell cK0_0 s; have qK0_1 := fun s : Wld _ => Wld.cell cK0_1 s; have qK0_2 := fun s : Wld _ => Wld.cell cK0_2 s; have qK0_3 := fun s : Wld _ => Wld.cell cK0_3 s; have qK1_0 := fun s : Wld _ => Wld.cell cK1_0 s; have qK1_1 := fun s : Wld _ => Wld.cell cK1_1 s; have qK1_2 := fun s : Wld _ => Wld.cell cK1_2 s; have qK1_3 := fun s : Wld _ => Wld.cell cK1_3 s; have qK1_4 := fun s : Wld _ => Wld.cell cK1_4 s
        refine wld_lit (by kernel_rfl) (by kernel_rfl) ?_
        repeat (go_big_quiet_step (first | fail))
        clear r0
        refine wpQuiet_nil ?_; refine Wld.elim ?_; intro w' hb; clear qK0_0 qK0_1 qK0_2 qK0_3 qK1_0 qK1_1 qK1_2 qK1_3 qK1_4; have HB := bl_step (w := w) (by repeat (with_reducible first | exact HB | (refine bl_set ?_ (by omega)) | apply bl_alloc | apply bl_drew | apply bl_drewN | fail)) hb; have hzB := HB.size; have K0 := Blk.on (by first | exact K0 | exact K0 #[] | exact K0 (.cells #[] 0) #[]) (by repeat (with_reducible first | exact K0 | exact K0 _ | exact K0 _ _ | apply Blk.alloc | apply Blk.drew | apply Blk.drewN | apply Blk.set4_0 | apply Blk.set4_1 | apply Blk.set4_2 | apply Blk.set4_3 | (apply Blk.off; (first | assumption | omega | (simp; omega))) | fail)) hb; (try clear cK0_0 cK0_1 cK0_2 cK0_3 fK0 lK0 nK0 mK0); obtain ⟨cK0_0, cK0_1, cK0_2, cK0_3, fK0, lK0, nK0, mK0⟩ := Blk.all4 K0; have K1 := Blk.on (by first | exact K1 | exact K1 #[] | exact K1 (.cells #[] 0) #[]) (by repeat (with_reducible first | exact K1 | exact K1 _ | exact K1 _ _ | apply Blk.alloc | apply Blk.drew | apply Blk.drewN | apply Blk.set5_0 | apply Blk.set5_1 | apply Blk.set5_2 | apply Blk.set5_3 | apply Blk.set5_4 | (apply Blk.off; (first | assumption | omega | (simp; omega))) | fail)) hb; (try clear cK1_0 cK1_1 cK1_2 cK1_3 cK1_4 fK1 lK1 nK1 mK1); obtain ⟨cK1_0, cK1_1, cK1_2, cK1_3, cK1_4, fK1, lK1, nK1, mK1⟩ := Blk.all5 K1
        have BR2 := BR.out.below hb
        have d0 := cb hb c0
        have d1 := cb hb c1
        have d2 := cb hb c2
        clear hb BR c0 c1 c2
        go_wp2_with (first | (go_at_call 21; (with_reducible refine (dd.out _).mono ?_); rintro e w5 ⟨rfl, hb⟩; have HB := bl_step (w := w) (by repeat (with_reducible first | exact HB | (refine bl_set ?_ (by omega)) | apply bl_alloc | apply bl_drew | apply bl_drewN | fail)) hb; have hzB := HB.size; have K0 := Blk.on (by first | exact K0 | exact K0 #[] | exact K0 (.cells #[] 0) #[]) (by repeat (with_reducible first | exact K0 | exact K0 _ | exact K0 _ _ | apply Blk.alloc | apply Blk.drew | apply Blk.drewN | apply Blk.set4_0 | apply Blk.set4_1 | apply Blk.set4_2 | apply Blk.set4_3 | (apply Blk.off; (first | assumption | omega | (simp; omega))) | fail)) hb; (try clear cK0_0 cK0_1 cK0_2 cK0_3 fK0 lK0 nK0 mK0); obtain ⟨cK0_0, cK0_1, cK0_2, cK0_3, fK0, lK0, nK0, mK0⟩ := Blk.all4 K0; have K1 := Blk.on (by first | exact K1 | exact K1 #[] | exact K1 (.cells #[] 0) #[]) (by repeat (with_reducible first | exact K1 | exact K1 _ | exact K1 _ _ | apply Blk.alloc | apply Blk.drew | apply Blk.drewN | apply Blk.set5_0 | apply Blk.set5_1 | apply Blk.set5_2 | apply Blk.set5_3 | apply Blk.set5_4 | (apply Blk.off; (first | assumption | omega | (simp; omega))) | fail)) hb; (try clear cK1_0 cK1_1 cK1_2 cK1_3 cK1_4 fK1 lK1 nK1 mK1); obtain ⟨cK1_0, cK1_1, cK1_2, cK1_3, cK1_4, fK1, lK1, nK1, mK1⟩ := Blk.all5 K1) | fail)
        go_roundg (7 - (i + 1))
        case measure => omega
        case rel => exact ⟨i + 1, (i : Int) + 1, by omega, by omega, by omega, by go_num, (by rw [NX.out]), HB, K0, K1, BR2.below hb⟩
    · obtain rfl : i = 7 := by omega
      have he : allB f (OL.take 7) = FX := by
        rw [List.take_of_length_le (by rw [HN.out]; decide)]
        exact HFX.out
      rw [he]
      subst hj
      obtain ⟨b2, off2, x, hbo, hbs, hx, hok, c0, c1, c2⟩ := BR.out.at_ (j := 1) (by rw [HN.out]; decide)
      injection hbo with hbo
      injection hbo with hb1 hb2 _
      subst hb1 hb2
      have hxk : x.2.1 = (k : Int) := by
        obtain ⟨o, ho, ho1⟩ := HBK.out
        rw [hx] at ho
        injection ho with ho
        rw [ho]
        exact ho1
      rw [hxk] at c1
      simp only [Nat.zero_mul, Nat.one_mul, Nat.add_zero] at c1
      clear hx hok hxk c0 c2 he BR hbs hlt hi hg
      have v1 : (k : Int) ≤ 168 := by omega
      have v2 : (k : Int) + 24 ≤ 768 := by omega
      have v3 : k + 24 ≤ 768 := by omega
      have v4 : (k : Int) ≤ 768 := by omega
      have v5 : k ≤ 768 := by omega
      have v6 : decide ((k : Int) < 0) = false := by simp
      have v7 : decide (168 < (k : Int)) = false := by simp; omega
      have e1 := HX1.out
      have e2 := HX2.out
      go_upto_region 21 with (first | (go_at_call 25; with_reducible refine (pt.out _).mono ?_; rintro e w' ⟨rfl, hb⟩; have HB := bl_step (w := w) (by repeat (with_reducible first | exact HB | (refine bl_set ?_ (by omega)) | apply bl_alloc | apply bl_drew | apply bl_drewN | fail)) hb; have hzB := HB.size; have K0 := Blk.on (by first | exact K0 | exact K0 #[] | exact K0 (.cells #[] 0) #[]) (by repeat (with_reducible first | exact K0 | exact K0 _ | exact K0 _ _ | apply Blk.alloc | apply Blk.drew | apply Blk.drewN | apply Blk.set4_0 | apply Blk.set4_1 | apply Blk.set4_2 | apply Blk.set4_3 | (apply Blk.off; (first | assumption | omega | (simp; omega))) | fail)) hb; (try clear cK0_0 cK0_1 cK0_2 cK0_3 fK0 lK0 nK0 mK0); obtain ⟨cK0_0, cK0_1, cK0_2, cK0_3, fK0, lK0, nK0, mK0⟩ := Blk.all4 K0; have K1 := Blk.on (by first | exact K1 | exact K1 #[] | exact K1 (.cells #[] 0) #[]) (by repeat (with_reducible first | exact K1 | exact K1 _ | exact K1 _ _ | apply Blk.alloc | apply Blk.drew | apply Blk.drewN | apply Blk.set5_0 | apply Blk.set5_1 | apply Blk.set5_2 | apply Blk.set5_3 | apply Blk.set5_4 | (apply Blk.off; (first | assumption | omega | (simp; omega))) | fail)) hb; (try clear cK1_0 cK1_1 cK1_2 cK1_3 cK1_4 fK1 lK1 nK1 mK1); obtain ⟨cK1_0, cK1_1, cK1_2, cK1_3, cK1_4, fK1, lK1, nK1, mK1⟩ := Blk.all5 K1) | fail)
      have c1w := cb hb c1
      clear c1 hb hzB
      have qK0_0 := fun s : Wld _ => Wld.cell cK0_0 s; have qK0_1 := fun s : Wld _ => Wld.cell cK0_1 s; have qK0_2 := fun s : Wld _ => Wld.cell cK0_2 s; have qK0_3 := fun s : Wld _ => Wld.cell cK0_3 s; have qK1_0 := fun s : Wld _ => Wld.cell cK1_0 s; have qK1_1 := fun s : Wld _ => Wld.cell cK1_1 s; have qK1_2 := fun s : Wld _ => Wld.cell cK1_2 s; have qK1_3 := fun s : Wld _ => Wld.cell cK1_3 s; have qK1_4 := fun s : Wld _ => Wld.cell cK1_4 s
      refine wld_lit (by kernel_rfl) (by kernel_rfl) ?_
      repeat (go_big_quiet_step (first | fail))
      refine wpQuiet_nil ?_; refine Wld.elim ?_; intro w' hb; clear qK0_0 qK0_1 qK0_2 qK0_3 qK1_0 qK1_1 qK1_2 qK1_3 qK1_4; have HB := bl_step (w := w) (by repeat (with_reducible first | exact HB | (refine bl_set ?_ (by omega)) | apply bl_alloc | apply bl_drew | apply bl_drewN | fail)) hb; have hzB := HB.size; have K0 := Blk.on (by first | exact K0 | exact K0 #[] | exact K0 (.cells #[] 0) #[]) (by repeat (with_reducible first | exact K0 | exact K0 _ | exact K0 _ _ | apply Blk.alloc | apply Blk.drew | apply Blk.drewN | apply Blk.set4_0 | apply Blk.set4_1 | apply Blk.set4_2 | apply Blk.set4_3 | (apply Blk.off; (first | assumption | omega | (simp; omega))) | fail)) hb; (try clear cK0_0 cK0_1 cK0_2 cK0_3 fK0 lK0 nK0 mK0); obtain ⟨cK0_0, cK0_1, cK0_2, cK0_3, fK0, lK0, nK0, mK0⟩ := Blk.all4 K0; have K1 := Blk.on (by first | exact K1 | exact K1 #[] | exact K1 (.cells #[] 0) #[]) (by repeat (with_reducible first | exact K1 | exact K1 _ | exact K1 _ _ | apply Blk.alloc | apply Blk.drew | apply Blk.drewN | apply Blk.set5_0 | apply Blk.set5_1 | apply Blk.set5_2 | apply Blk.set5_3 | apply Blk.set5_4 | (apply Blk.off; (first | assumption | omega | (simp; omega))) | fail)) hb; (try clear cK1_0 cK1_1 cK1_2 cK1_3 cK1_4 fK1 lK1 nK1 mK1); obtain ⟨cK1_0, cK1_1, cK1_2, cK1_3, cK1_4, fK1, lK1, nK1, mK1⟩ := Blk.all5 K1
      clear c1w e1 e2 v1 v2 v3 v4 v5 v6 v7
      rcases HE.out with rfl | rfl
      · obtain ⟨l, rfl⟩ := Int.eq_ofNat_of_zero_le ha0
        have l1 : (l : Int) + 24 ≤ 768 := by omega
        have l2 : l + 24 ≤ 768 := by omega
        have l3 : (l : Int) ≤ 768 := by omega
        have l4 : l ≤ 768 := by omega
        have e3 := HX3.out l rfl rfl
        go_upto_region 23 with (first | fail)
        have qK1_0 := fun s : Wld _ => Wld.cell cK1_0 s; have qK1_1 := fun s : Wld _ => Wld.cell cK1_1 s; have qK1_2 := fun s : Wld _ => Wld.cell cK1_2 s; have qK1_3 := fun s : Wld _ => Wld.cell cK1_3 s; have qK1_4 := fun s : Wld _ => Wld.cell cK1_4 s
        refine wld_lit (by kernel_rfl) (by kernel_rfl) ?_
        repeat (go_big_quiet_step (first | fail))
        refine wpQuiet_nil ?_; refine Wld.elim ?_; intro w' hb; clear qK1_0 qK1_1 qK1_2 qK1_3 qK1_4; have HB := bl_step (w := w) (by repeat (with_reducible first | exact HB | (refine bl_set ?_ (by omega)) | apply bl_alloc | apply bl_drew | apply bl_drewN | fail)) hb; have hzB := HB.size; have K1 := Blk.on (by first | exact K1 | exact K1 #[] | exact K1 (.cells #[] 0) #[]) (by repeat (with_reducible first | exact K1 | exact K1 _ | exact K1 _ _ | apply Blk.alloc | apply Blk.drew | apply Blk.drewN | apply Blk.set5_0 | apply Blk.set5_1 | apply Blk.set5_2 | apply Blk.set5_3 | apply Blk.set5_4 | (apply Blk.off; (first | assumption | omega | (simp; omega))) | fail)) hb; (try clear cK1_0 cK1_1 cK1_2 cK1_3 cK1_4 fK1 lK1 nK1 mK1); obtain ⟨cK1_0, cK1_1, cK1_2, cK1_3, cK1_4, fK1, lK1, nK1, mK1⟩ := Blk.all5 K1
        go_wp2_with fail
        go_ret
        exact ⟨rfl, HB⟩
      · go_upto_region 23 with (first | fail)
        have qK1_0 := fun s : Wld _ => Wld.cell cK1_0 s; have qK1_1 := fun s : Wld _ => Wld.cell cK1_1 s; have qK1_2 := fun s : Wld _ => Wld.cell cK1_2 s; have qK1_3 := fun s : Wld _ => Wld.cell cK1_3 s; have qK1_4 := fun s : Wld _ => Wld.cell cK1_4 s
        refine wld_lit (by kernel_rfl) (by kernel_rfl) ?_
        repeat (go_big_quiet_step (first | fail))
        refine wpQuiet_nil ?_; refine Wld.elim ?_; intro w' hb; clear qK1_0 qK1_1 qK1_2 qK1_3 qK1_4; have HB := bl_step (w := w) (by repeat (with_reducible first | exact HB | (refine bl_set ?_ (by omega)) | apply bl_alloc | apply bl_drew | apply bl_drewN | fail)) hb; have hzB := HB.size; have K1 := Blk.on (by first | exact K1 | exact K1 #[] | exact K1 (.cells #[] 0) #[]) (by repeat (with_reducible first | exact K1 | exact K1 _ | exact K1 _ _ | apply Blk.alloc | apply Blk.drew | apply Blk.drewN | apply Blk.set5_0 | apply Blk.set5_1 | apply Blk.set5_2 | apply Blk.set5_3 | apply Blk.set5_4 | (apply Blk.off; (first | assumption | omega | (simp; omega))) | fail)) hb; (try clear cK1_0 cK1_1 cK1_2 cK1_3 cK1_4 fK1 lK1 nK1 mK1); obtain ⟨cK1_0, cK1_1, cK1_2, cK1_3, cK1_4, fK1, lK1, nK1, mK1⟩ := Blk.all5 K1
        go_wp2_with fail
        go_ret
        exact ⟨rfl, HB⟩
end Go.Proofs.Ytimnhdmpfndeaaa.Pl
