/- Layer 8: PlaceCut, where a record is appended: the walk (printed by gen_ply.py). -/
import Derived.Test.YtimnhdmpfndeaaaPlx
import Derived.Test.YtimnhdmpfndeaaaEqp
namespace Go.Proofs.Ytimnhdmpfndeaaa.Pl
open Go.RowKit Go.Proofs.Ytimnhdmpfndeaaa.Kt Go.Proofs.Ytimnhdmpfndeaaa.Lw Go.Proofs.Ytimnhdmpfndeaaa.St Go.Proofs.Ytimnhdmpfndeaaa.Nm Go.Proofs.Ytimnhdmpfndeaaa.Es Go.Proofs.Ytimnhdmpfndeaaa.By Go.Proofs.Ytimnhdmpfndeaaa.En Go.Proofs.Ytimnhdmpfndeaaa.Jr Go.Proofs.Ytimnhdmpfndeaaa.Im Go.Proofs.Ytimnhdmpfndeaaa.Sl Go.Proofs.Ytimnhdmpfndeaaa.Gr Go.Proofs.Ytimnhdmpfndeaaa.Ops Go.Proofs.Ytimnhdmpfndeaaa.Ch Go.Proofs.Ytimnhdmpfndeaaa.Fl
set_option linter.unusedVariables false
set_option linter.unusedSimpArgs false
attribute [local irreducible] gotB goodB Cr.crcB nQ nS nZ nM placeB wholeB
attribute [local go_sem high] eqRec eqPlc
set_option maxRecDepth 100000 in
set_option maxHeartbeats 25600000 in
theorem pcut_6 (f Y Z : ByteArray) (slot size many cut : Int) (a0 a1 a2 a3 a4 Q S Zz M : Int) (OL : List OpV) (o : OpV) (k c : Nat) (w : World)
    (hf : f.size = 768) (hkd : wrap64 (Int.tmod (IntKind.u64.wrap many) 6) = (k : Int)) (hcd : wrap64 (Int.tmod (IntKind.u64.wrap cut) 97) = (c : Int)) (hk : k < 6) (hc : c ≤ 96)
    (hac : ∀ W : World, Calls Try.prog 18 #[.string f] W fun e w' => e = .returned (.tuple #[.agg #[.int .i64 a0, .int .i64 a1, .int .i64 a2, .int .i64 a3, .int .i64 a4], .int .i64 0]) ∧ Below W.heap.size W w')
    (hrc : ∀ W : World, Calls Try.prog 19 #[.string f, .int .i64 slot, .int .i64 size] W fun e w' => e = .returned (.tuple #[.agg #[.int .i64 Q, .int .i64 S, .int .i64 Zz, .int .i64 M], .int .i64 0]) ∧ Below W.heap.size W w')
    (htf : ∀ W : World, Calls Try.prog 20 #[.string f] W fun e w' => e = .returned (.bool true) ∧ Below W.heap.size W w') (htY : ∀ W : World, Calls Try.prog 20 #[.string Y] W fun e w' => e = .returned (.bool true) ∧ Below W.heap.size W w') (htZ : ∀ W : World, Calls Try.prog 20 #[.string Z] W fun e w' => e = .returned (.bool true) ∧ Below W.heap.size W w')
    (hap : ∀ W : World, Calls Try.prog 12 #[.string f, .agg #[.int .i64 Q, .int .i64 S, .int .i64 Zz, .int .i64 M]] W fun e w' => ∃ A c, e = .returned (.tuple #[.slice A 6 c, .int .i64 0]) ∧ Lies encOp 3 w' A OL ∧ Below W.heap.size W w')
    (hn : OL.length = 6) (hm : MayL OL) (hko : OL[k]? = some o) (hY : cutB (allB f (OL.take k)) o c = Y) (hZ : doB (allB f (OL.take k)) o = Z) (hq : (Q == a1) = false)
    (hAY : ∃ b0 b1 b2 b3 b4 : Int, (∀ W : World, Calls Try.prog 18 #[.string Y] W fun e w' => e = .returned (.tuple #[.agg #[.int .i64 b0, .int .i64 b1, .int .i64 b2, .int .i64 b3, .int .i64 b4], .int .i64 0]) ∧ Below W.heap.size W w') ∧ ((b0 = a0 ∧ b1 = a1 ∧ b2 = a2 ∧ b3 = a3 ∧ b4 = a4) ∨ (b1 = Q ∧ b2 = S ∧ b3 = Zz ∧ b4 = M)))
    (hAZ : ∃ b0 b1 b2 b3 b4 : Int, (∀ W : World, Calls Try.prog 18 #[.string Z] W fun e w' => e = .returned (.tuple #[.agg #[.int .i64 b0, .int .i64 b1, .int .i64 b2, .int .i64 b3, .int .i64 b4], .int .i64 0]) ∧ Below W.heap.size W w') ∧ ((k < 5 ∧ b0 = a0 ∧ b1 = a1 ∧ b2 = a2 ∧ b3 = a3 ∧ b4 = a4) ∨ (b1 = Q ∧ b2 = S ∧ b3 = Zz ∧ b4 = M))) :
    Calls Try.prog 4 #[.string f, .int .i64 slot, .int .i64 size, .int .i64 many, .int .i64 cut] w fun e w' => e = .returned (.bool true) ∧ Below w.heap.size w w' := by
  have HB := Below.refl w.heap.size w
  have ac := Lib.hid hac
  have rc := Lib.hid hrc
  have tf := Lib.hid htf
  have tY := Lib.hid htY
  have tZ := Lib.hid htZ
  have ap := Lib.hid hap
  have HN := Lib.hid hn
  have HM := Lib.hid hm
  have HY := Lib.hid hY
  have HZ := Lib.hid hZ
  have HKO := Lib.hid hko
  have HAY := Lib.hid hAY
  have HAZ := Lib.hid hAZ
  clear hac hrc htf htY htZ hap hn hm hY hZ hko hAY hAZ
  go_enter Try.func4, Try.ntmps4
  go_upto_region 4 with (first | (go_at_call 17; with_reducible refine (awake_c _).mono ?_; rintro e w' ⟨rfl, hb⟩; have HB := bl_step (w := w) (by repeat (with_reducible first | exact HB | (refine bl_set ?_ (by omega)) | apply bl_alloc | apply bl_drew | apply bl_drewN | fail)) hb; have hzB := HB.size) | (go_at_call 18; with_reducible refine (ac.out _).mono ?_; rintro e w1 ⟨rfl, hb⟩; have HB := bl_step (w := w) (by repeat (with_reducible first | exact HB | (refine bl_set ?_ (by omega)) | apply bl_alloc | apply bl_drew | apply bl_drewN | fail)) hb; have hzB := HB.size; have K1 := fun cs => Blk.new w1 cs 40) | fail)
  go_upto_region 7 with (first | (go_at_call 19; with_reducible refine (rc.out _).mono ?_; rintro e w2 ⟨rfl, hb⟩; have HB := bl_step (w := w) (by repeat (with_reducible first | exact HB | (refine bl_set ?_ (by omega)) | apply bl_alloc | apply bl_drew | apply bl_drewN | fail)) hb; have hzB := HB.size; have K1 := Blk.on (by first | exact K1 | exact K1 #[] | exact K1 (.cells #[] 0) #[]) (by repeat (with_reducible first | exact K1 | exact K1 _ | exact K1 _ _ | apply Blk.alloc | apply Blk.drew | apply Blk.drewN | apply Blk.set5_0 | apply Blk.set5_1 | apply Blk.set5_2 | apply Blk.set5_3 | apply Blk.set5_4 | (apply Blk.off; (first | assumption | omega | (simp; omega))) | fail)) hb; (try clear cK1_0 cK1_1 cK1_2 cK1_3 cK1_4 fK1 lK1 nK1 mK1); obtain ⟨cK1_0, cK1_1, cK1_2, cK1_3, cK1_4, fK1, lK1, nK1, mK1⟩ := Blk.all5 K1; have K2 := fun cs => Blk.new w2 cs 23) | (go_at_call 20; with_reducible refine (tf.out _).mono ?_; rintro e w' ⟨rfl, hb⟩; have HB := bl_step (w := w) (by repeat (with_reducible first | exact HB | (refine bl_set ?_ (by omega)) | apply bl_alloc | apply bl_drew | apply bl_drewN | fail)) hb; have hzB := HB.size; have K1 := Blk.on (by first | exact K1 | exact K1 #[] | exact K1 (.cells #[] 0) #[]) (by repeat (with_reducible first | exact K1 | exact K1 _ | exact K1 _ _ | apply Blk.alloc | apply Blk.drew | apply Blk.drewN | apply Blk.set5_0 | apply Blk.set5_1 | apply Blk.set5_2 | apply Blk.set5_3 | apply Blk.set5_4 | (apply Blk.off; (first | assumption | omega | (simp; omega))) | fail)) hb; (try clear cK1_0 cK1_1 cK1_2 cK1_3 cK1_4 fK1 lK1 nK1 mK1); obtain ⟨cK1_0, cK1_1, cK1_2, cK1_3, cK1_4, fK1, lK1, nK1, mK1⟩ := Blk.all5 K1; have K2 := Blk.on (by first | exact K2 | exact K2 #[] | exact K2 (.cells #[] 0) #[]) (by repeat (with_reducible first | exact K2 | exact K2 _ | exact K2 _ _ | apply Blk.alloc | apply Blk.drew | apply Blk.drewN | apply Blk.set4_0 | apply Blk.set4_1 | apply Blk.set4_2 | apply Blk.set4_3 | (apply Blk.off; (first | assumption | omega | (simp; omega))) | fail)) hb; (try clear cK2_0 cK2_1 cK2_2 cK2_3 fK2 lK2 nK2 mK2); obtain ⟨cK2_0, cK2_1, cK2_2, cK2_3, fK2, lK2, nK2, mK2⟩ := Blk.all4 K2) | fail)
  go_upto_region 8 with (first | (go_at_call 12; (with_reducible refine (ap.out _).mono ?_); rintro e w3 ⟨A, cp, rfl, hL, hb⟩; have HB := bl_step (w := w) (by repeat (with_reducible first | exact HB | (refine bl_set ?_ (by omega)) | apply bl_alloc | apply bl_drew | apply bl_drewN | fail)) hb; have hzB := HB.size; have K1 := Blk.on (by first | exact K1 | exact K1 #[] | exact K1 (.cells #[] 0) #[]) (by repeat (with_reducible first | exact K1 | exact K1 _ | exact K1 _ _ | apply Blk.alloc | apply Blk.drew | apply Blk.drewN | apply Blk.set5_0 | apply Blk.set5_1 | apply Blk.set5_2 | apply Blk.set5_3 | apply Blk.set5_4 | (apply Blk.off; (first | assumption | omega | (simp; omega))) | fail)) hb; (try clear cK1_0 cK1_1 cK1_2 cK1_3 cK1_4 fK1 lK1 nK1 mK1); obtain ⟨cK1_0, cK1_1, cK1_2, cK1_3, cK1_4, fK1, lK1, nK1, mK1⟩ := Blk.all5 K1; have K2 := Blk.on (by first | exact K2 | exact K2 #[] | exact K2 (.cells #[] 0) #[]) (by repeat (with_reducible first | exact K2 | exact K2 _ | exact K2 _ _ | apply Blk.alloc | apply Blk.drew | apply Blk.drewN | apply Blk.set4_0 | apply Blk.set4_1 | apply Blk.set4_2 | apply Blk.set4_3 | (apply Blk.off; (first | assumption | omega | (simp; omega))) | fail)) hb; (try clear cK2_0 cK2_1 cK2_2 cK2_3 fK2 lK2 nK2 mK2); obtain ⟨cK2_0, cK2_1, cK2_2, cK2_3, fK2, lK2, nK2, mK2⟩ := Blk.all4 K2) | fail)
  have R0 := row_of hL (by rw [HN.out]; decide) HM.out
  clear hL hb
  go_upto_region 13 with (first | (go_at_call 14; with_reducible refine (enum_c _ _).mono ?_; rintro e w' ⟨rfl, rfl⟩) | fail)
  rw [hkd]
  generalize w1.heap.size = g1 at *
  generalize w2.heap.size = g2 at *
  have BK1 : Aside (Blk w3 g1 #[.int .i64 a0, .int .i64 a1, .int .i64 a2, .int .i64 a3, .int .i64 a4] 40) := K1
  have BK2 : Aside (Blk w3 g2 #[.int .i64 Q, .int .i64 S, .int .i64 Zz, .int .i64 M] 23) := K2
  clear K1 K2 cK1_0 cK1_1 cK1_2 cK1_3 cK1_4 fK1 lK1 nK1 mK1 cK2_0 cK2_1 cK2_2 cK2_3 fK2 lK2 nK2 mK2 hkd
  go_loopg [18, 19] k (fun gg s18 s19 wr => ∃ i : Nat, i ≤ k ∧ k - i ≤ gg ∧ s19 = .int .i64 i ∧ s18 = .string (allB f (OL.take i)) ∧ Aside (Below w.heap.size w wr) ∧ Aside (Blk wr g1 #[.int .i64 a0, .int .i64 a1, .int .i64 a2, .int .i64 a3, .int .i64 a4] 40) ∧ Aside (Blk wr g2 #[.int .i64 Q, .int .i64 S, .int .i64 Zz, .int .i64 M] 23) ∧ Aside (Row wr A OL))
  case atStart => exact ⟨0, by omega, by omega, rfl, rfl, HB, BK1, BK2, R0⟩
  case round =>
    clear HB BK1 BK2 R0
    obtain ⟨i, hi, hg, rfl, rfl, BW, BA, BB, BR⟩ := hrel
    have HB := BW.out
    have K1 := BA.out
    obtain ⟨cK1_0, cK1_1, cK1_2, cK1_3, cK1_4, fK1, lK1, nK1, mK1⟩ := Blk.all5 K1
    have K2 := BB.out
    obtain ⟨cK2_0, cK2_1, cK2_2, cK2_3, fK2, lK2, nK2, mK2⟩ := Blk.all4 K2
    clear BW BA BB
    by_cases hlt : i < k
    · obtain ⟨b, off, x, rfl, hbs, hx, hok, c0, c1, c2⟩ := BR.out.at_ (j := i) (by rw [HN.out]; omega)
      have hmx := HM.out x (List.mem_of_getElem? hx)
      have hsz := all_size hf (HM.out.take i)
      have NX := Lib.hid (all_next (f := f) hx)
      have dd := Lib.hid (fun W : World => rdo_c (allB f (OL.take i)) x W (by omega) hok)
      rw [do_yes hsz hmx.1] at dd
      have om := Lib.hid (fun W : World => rOpMay_c x W hok)
      rw [hmx.1] at om
      have hi7 : (i : Int) < 6 := by omega
      have hi3 : (i : Int) < (k : Int) := by omega
      have hi0 : (0 : Int) ≤ (i : Int) := by omega
      clear hx hok hmx hsz
      go_upto_region 16 with (first | (go_at_call 21; (with_reducible refine (dd.out _).mono ?_); rintro e w5 ⟨rfl, hb⟩; have HB := bl_step (w := w) (by repeat (with_reducible first | exact HB | (refine bl_set ?_ (by omega)) | apply bl_alloc | apply bl_drew | apply bl_drewN | fail)) hb; have hzB := HB.size; have K1 := Blk.on (by first | exact K1 | exact K1 #[] | exact K1 (.cells #[] 0) #[]) (by repeat (with_reducible first | exact K1 | exact K1 _ | exact K1 _ _ | apply Blk.alloc | apply Blk.drew | apply Blk.drewN | apply Blk.set5_0 | apply Blk.set5_1 | apply Blk.set5_2 | apply Blk.set5_3 | apply Blk.set5_4 | (apply Blk.off; (first | assumption | omega | (simp; omega))) | fail)) hb; (try clear cK1_0 cK1_1 cK1_2 cK1_3 cK1_4 fK1 lK1 nK1 mK1); obtain ⟨cK1_0, cK1_1, cK1_2, cK1_3, cK1_4, fK1, lK1, nK1, mK1⟩ := Blk.all5 K1; have K2 := Blk.on (by first | exact K2 | exact K2 #[] | exact K2 (.cells #[] 0) #[]) (by repeat (with_reducible first | exact K2 | exact K2 _ | exact K2 _ _ | apply Blk.alloc | apply Blk.drew | apply Blk.drewN | apply Blk.set4_0 | apply Blk.set4_1 | apply Blk.set4_2 | apply Blk.set4_3 | (apply Blk.off; (first | assumption | omega | (simp; omega))) | fail)) hb; (try clear cK2_0 cK2_1 cK2_2 cK2_3 fK2 lK2 nK2 mK2); obtain ⟨cK2_0, cK2_1, cK2_2, cK2_3, fK2, lK2, nK2, mK2⟩ := Blk.all4 K2; have BR2 := BR.out.below hb; have c0 := cb hb c0; have c1 := cb hb c1; have c2 := cb hb c2) | fail)
      clear BR hb
      go_wp2_with (first | (go_at_call 22; (with_reducible refine (om.out _).mono ?_); rintro e w6 ⟨rfl, hb⟩; have HB := bl_step (w := w) (by repeat (with_reducible first | exact HB | (refine bl_set ?_ (by omega)) | apply bl_alloc | apply bl_drew | apply bl_drewN | fail)) hb; have hzB := HB.size; have K1 := Blk.on (by first | exact K1 | exact K1 #[] | exact K1 (.cells #[] 0) #[]) (by repeat (with_reducible first | exact K1 | exact K1 _ | exact K1 _ _ | apply Blk.alloc | apply Blk.drew | apply Blk.drewN | apply Blk.set5_0 | apply Blk.set5_1 | apply Blk.set5_2 | apply Blk.set5_3 | apply Blk.set5_4 | (apply Blk.off; (first | assumption | omega | (simp; omega))) | fail)) hb; (try clear cK1_0 cK1_1 cK1_2 cK1_3 cK1_4 fK1 lK1 nK1 mK1); obtain ⟨cK1_0, cK1_1, cK1_2, cK1_3, cK1_4, fK1, lK1, nK1, mK1⟩ := Blk.all5 K1; have K2 := Blk.on (by first | exact K2 | exact K2 #[] | exact K2 (.cells #[] 0) #[]) (by repeat (with_reducible first | exact K2 | exact K2 _ | exact K2 _ _ | apply Blk.alloc | apply Blk.drew | apply Blk.drewN | apply Blk.set4_0 | apply Blk.set4_1 | apply Blk.set4_2 | apply Blk.set4_3 | (apply Blk.off; (first | assumption | omega | (simp; omega))) | fail)) hb; (try clear cK2_0 cK2_1 cK2_2 cK2_3 fK2 lK2 nK2 mK2); obtain ⟨cK2_0, cK2_1, cK2_2, cK2_3, fK2, lK2, nK2, mK2⟩ := Blk.all4 K2) | fail)
      go_roundg (k - (i + 1))
      case measure => omega
      case rel => exact ⟨i + 1, by omega, by omega, by go_num, (by rw [NX.out]), HB, K1, K2, BR2.below hb⟩
    · obtain rfl : i = k := by omega
      obtain ⟨b, off, x, rfl, hbs, hx, hok, c0, c1, c2⟩ := BR.out.at_ (j := i) (by rw [HN.out]; omega)
      obtain rfl : x = o := by
        have := HKO.out
        rw [hx] at this
        exact Option.some.inj this
      have hmx := HM.out x (List.mem_of_getElem? hx)
      have hsz := all_size hf (HM.out.take i)
      have dd := Lib.hid (fun W : World => rdo_c (allB f (OL.take i)) x W (by omega) hok)
      rw [do_yes hsz hmx.1, HZ.out] at dd
      have ct := Lib.hid (fun W : World => rcut_c (allB f (OL.take i)) x (c : Int) W (by omega) hok)
      rw [show cutV (allB f (OL.take i)) x (c : Int) = #[.string Y, .int .i64 0] by simp [cutV, hsz, hmx.1, hc, HY.out, show (c : Int) ≤ 96 by omega]] at ct
      have hi7 : (i : Int) < 6 := by omega
      have hi3 : decide ((i : Int) < (i : Int)) = false := by simp
      have hi0 : (0 : Int) ≤ (i : Int) := by omega
      clear hx hok hmx hsz hlt hi
      obtain ⟨b0, b1, b2, b3, b4, hA, hBc⟩ := HAY.out
      have aY := Lib.hid hA
      obtain ⟨d0, d1, d2, d3, d4, hA2, hDc⟩ := HAZ.out
      have aZ := Lib.hid hA2
      have DC := Lib.hid hDc
      have BC := Lib.hid hBc
      clear hA hA2 hBc hDc
      go_upto_region 20 with (first | (go_at_call 23; rw [hcd]; (with_reducible refine (ct.out _).mono ?_); rintro e w5 ⟨rfl, hb⟩; have HB := bl_step (w := w) (by repeat (with_reducible first | exact HB | (refine bl_set ?_ (by omega)) | apply bl_alloc | apply bl_drew | apply bl_drewN | fail)) hb; have hzB := HB.size; have K1 := Blk.on (by first | exact K1 | exact K1 #[] | exact K1 (.cells #[] 0) #[]) (by repeat (with_reducible first | exact K1 | exact K1 _ | exact K1 _ _ | apply Blk.alloc | apply Blk.drew | apply Blk.drewN | apply Blk.set5_0 | apply Blk.set5_1 | apply Blk.set5_2 | apply Blk.set5_3 | apply Blk.set5_4 | (apply Blk.off; (first | assumption | omega | (simp; omega))) | fail)) hb; (try clear cK1_0 cK1_1 cK1_2 cK1_3 cK1_4 fK1 lK1 nK1 mK1); obtain ⟨cK1_0, cK1_1, cK1_2, cK1_3, cK1_4, fK1, lK1, nK1, mK1⟩ := Blk.all5 K1; have K2 := Blk.on (by first | exact K2 | exact K2 #[] | exact K2 (.cells #[] 0) #[]) (by repeat (with_reducible first | exact K2 | exact K2 _ | exact K2 _ _ | apply Blk.alloc | apply Blk.drew | apply Blk.drewN | apply Blk.set4_0 | apply Blk.set4_1 | apply Blk.set4_2 | apply Blk.set4_3 | (apply Blk.off; (first | assumption | omega | (simp; omega))) | fail)) hb; (try clear cK2_0 cK2_1 cK2_2 cK2_3 fK2 lK2 nK2 mK2); obtain ⟨cK2_0, cK2_1, cK2_2, cK2_3, fK2, lK2, nK2, mK2⟩ := Blk.all4 K2; have c0 := cb hb c0; have c1 := cb hb c1; have c2 := cb hb c2) | fail)
      clear BR hb hcd
      go_upto_region 21 with (first | (go_at_call 18; (with_reducible refine (aY.out _).mono ?_); rintro e w6 ⟨rfl, hb⟩; have HB := bl_step (w := w) (by repeat (with_reducible first | exact HB | (refine bl_set ?_ (by omega)) | apply bl_alloc | apply bl_drew | apply bl_drewN | fail)) hb; have hzB := HB.size; have K1 := Blk.on (by first | exact K1 | exact K1 #[] | exact K1 (.cells #[] 0) #[]) (by repeat (with_reducible first | exact K1 | exact K1 _ | exact K1 _ _ | apply Blk.alloc | apply Blk.drew | apply Blk.drewN | apply Blk.set5_0 | apply Blk.set5_1 | apply Blk.set5_2 | apply Blk.set5_3 | apply Blk.set5_4 | (apply Blk.off; (first | assumption | omega | (simp; omega))) | fail)) hb; (try clear cK1_0 cK1_1 cK1_2 cK1_3 cK1_4 fK1 lK1 nK1 mK1); obtain ⟨cK1_0, cK1_1, cK1_2, cK1_3, cK1_4, fK1, lK1, nK1, mK1⟩ := Blk.all5 K1; have K2 := Blk.on (by first | exact K2 | exact K2 #[] | exact K2 (.cells #[] 0) #[]) (by repeat (with_reducible first | exact K2 | exact K2 _ | exact K2 _ _ | apply Blk.alloc | apply Blk.drew | apply Blk.drewN | apply Blk.set4_0 | apply Blk.set4_1 | apply Blk.set4_2 | apply Blk.set4_3 | (apply Blk.off; (first | assumption | omega | (simp; omega))) | fail)) hb; (try clear cK2_0 cK2_1 cK2_2 cK2_3 fK2 lK2 nK2 mK2); obtain ⟨cK2_0, cK2_1, cK2_2, cK2_3, fK2, lK2, nK2, mK2⟩ := Blk.all4 K2; have c0 := cb hb c0; have c1 := cb hb c1; have c2 := cb hb c2; have K3 := fun cs => Blk.new w6 cs 40) | fail)
      rcases BC.out with ⟨rfl, rfl, rfl, rfl, rfl⟩ | ⟨rfl, rfl, rfl, rfl⟩
      · clear BC
        go_upto_region 23 with (first | (go_at_call 20; (with_reducible refine (tY.out _).mono ?_); rintro e w7 ⟨rfl, hb⟩; have HB := bl_step (w := w) (by repeat (with_reducible first | exact HB | (refine bl_set ?_ (by omega)) | apply bl_alloc | apply bl_drew | apply bl_drewN | fail)) hb; have hzB := HB.size; have K1 := Blk.on (by first | exact K1 | exact K1 #[] | exact K1 (.cells #[] 0) #[]) (by repeat (with_reducible first | exact K1 | exact K1 _ | exact K1 _ _ | apply Blk.alloc | apply Blk.drew | apply Blk.drewN | apply Blk.set5_0 | apply Blk.set5_1 | apply Blk.set5_2 | apply Blk.set5_3 | apply Blk.set5_4 | (apply Blk.off; (first | assumption | omega | (simp; omega))) | fail)) hb; (try clear cK1_0 cK1_1 cK1_2 cK1_3 cK1_4 fK1 lK1 nK1 mK1); obtain ⟨cK1_0, cK1_1, cK1_2, cK1_3, cK1_4, fK1, lK1, nK1, mK1⟩ := Blk.all5 K1; have K2 := Blk.on (by first | exact K2 | exact K2 #[] | exact K2 (.cells #[] 0) #[]) (by repeat (with_reducible first | exact K2 | exact K2 _ | exact K2 _ _ | apply Blk.alloc | apply Blk.drew | apply Blk.drewN | apply Blk.set4_0 | apply Blk.set4_1 | apply Blk.set4_2 | apply Blk.set4_3 | (apply Blk.off; (first | assumption | omega | (simp; omega))) | fail)) hb; (try clear cK2_0 cK2_1 cK2_2 cK2_3 fK2 lK2 nK2 mK2); obtain ⟨cK2_0, cK2_1, cK2_2, cK2_3, fK2, lK2, nK2, mK2⟩ := Blk.all4 K2; have c0 := cb (bl_step (bl_alloc (Below.refl w6.heap.size w6) _) hb) c0; have c1 := cb (bl_step (bl_alloc (Below.refl w6.heap.size w6) _) hb) c1; have c2 := cb (bl_step (bl_alloc (Below.refl w6.heap.size w6) _) hb) c2) | fail)
        clear K3 hb
        go_upto_region 24 with (first | (go_at_call 21; (with_reducible refine (dd.out _).mono ?_); rintro e w8 ⟨rfl, hb⟩; have HB := bl_step (w := w) (by repeat (with_reducible first | exact HB | (refine bl_set ?_ (by omega)) | apply bl_alloc | apply bl_drew | apply bl_drewN | fail)) hb; have hzB := HB.size; have K1 := Blk.on (by first | exact K1 | exact K1 #[] | exact K1 (.cells #[] 0) #[]) (by repeat (with_reducible first | exact K1 | exact K1 _ | exact K1 _ _ | apply Blk.alloc | apply Blk.drew | apply Blk.drewN | apply Blk.set5_0 | apply Blk.set5_1 | apply Blk.set5_2 | apply Blk.set5_3 | apply Blk.set5_4 | (apply Blk.off; (first | assumption | omega | (simp; omega))) | fail)) hb; (try clear cK1_0 cK1_1 cK1_2 cK1_3 cK1_4 fK1 lK1 nK1 mK1); obtain ⟨cK1_0, cK1_1, cK1_2, cK1_3, cK1_4, fK1, lK1, nK1, mK1⟩ := Blk.all5 K1; have K2 := Blk.on (by first | exact K2 | exact K2 #[] | exact K2 (.cells #[] 0) #[]) (by repeat (with_reducible first | exact K2 | exact K2 _ | exact K2 _ _ | apply Blk.alloc | apply Blk.drew | apply Blk.drewN | apply Blk.set4_0 | apply Blk.set4_1 | apply Blk.set4_2 | apply Blk.set4_3 | (apply Blk.off; (first | assumption | omega | (simp; omega))) | fail)) hb; (try clear cK2_0 cK2_1 cK2_2 cK2_3 fK2 lK2 nK2 mK2); obtain ⟨cK2_0, cK2_1, cK2_2, cK2_3, fK2, lK2, nK2, mK2⟩ := Blk.all4 K2) | fail)
        clear hb c0 c1 c2
        go_upto_region 25 with (first | (go_at_call 18; (with_reducible refine (aZ.out _).mono ?_); rintro e w9 ⟨rfl, hb⟩; have HB := bl_step (w := w) (by repeat (with_reducible first | exact HB | (refine bl_set ?_ (by omega)) | apply bl_alloc | apply bl_drew | apply bl_drewN | fail)) hb; have hzB := HB.size; have K1 := Blk.on (by first | exact K1 | exact K1 #[] | exact K1 (.cells #[] 0) #[]) (by repeat (with_reducible first | exact K1 | exact K1 _ | exact K1 _ _ | apply Blk.alloc | apply Blk.drew | apply Blk.drewN | apply Blk.set5_0 | apply Blk.set5_1 | apply Blk.set5_2 | apply Blk.set5_3 | apply Blk.set5_4 | (apply Blk.off; (first | assumption | omega | (simp; omega))) | fail)) hb; (try clear cK1_0 cK1_1 cK1_2 cK1_3 cK1_4 fK1 lK1 nK1 mK1); obtain ⟨cK1_0, cK1_1, cK1_2, cK1_3, cK1_4, fK1, lK1, nK1, mK1⟩ := Blk.all5 K1; have K2 := Blk.on (by first | exact K2 | exact K2 #[] | exact K2 (.cells #[] 0) #[]) (by repeat (with_reducible first | exact K2 | exact K2 _ | exact K2 _ _ | apply Blk.alloc | apply Blk.drew | apply Blk.drewN | apply Blk.set4_0 | apply Blk.set4_1 | apply Blk.set4_2 | apply Blk.set4_3 | (apply Blk.off; (first | assumption | omega | (simp; omega))) | fail)) hb; (try clear cK2_0 cK2_1 cK2_2 cK2_3 fK2 lK2 nK2 mK2); obtain ⟨cK2_0, cK2_1, cK2_2, cK2_3, fK2, lK2, nK2, mK2⟩ := Blk.all4 K2) | fail)
        clear hb
        rcases DC.out with ⟨hk6, rfl, rfl, rfl, rfl, rfl⟩ | ⟨rfl, rfl, rfl, rfl⟩
        · have hk7 : decide ((i : Int) < 5) = true := by simp; omega
          go_wp2_with (first | (go_at_call 20; with_reducible refine (tZ.out _).mono ?_; rintro e w' ⟨rfl, hb⟩; have HB := bl_step (w := w) (by repeat (with_reducible first | exact HB | (refine bl_set ?_ (by omega)) | apply bl_alloc | apply bl_drew | apply bl_drewN | fail)) hb; have hzB := HB.size) | fail)
          go_ret
          exact ⟨rfl, HB⟩
        · by_cases hk6 : i < 5
          · have hk7 : decide ((i : Int) < 5) = true := by simp; omega
            go_wp2_with (first | (go_at_call 20; with_reducible refine (tZ.out _).mono ?_; rintro e w' ⟨rfl, hb⟩; have HB := bl_step (w := w) (by repeat (with_reducible first | exact HB | (refine bl_set ?_ (by omega)) | apply bl_alloc | apply bl_drew | apply bl_drewN | fail)) hb; have hzB := HB.size) | fail)
            go_ret
            exact ⟨rfl, HB⟩
          · have hk7 : decide ((i : Int) < 5) = false := by simp; omega
            go_wp2_with (first | (go_at_call 20; with_reducible refine (tZ.out _).mono ?_; rintro e w' ⟨rfl, hb⟩; have HB := bl_step (w := w) (by repeat (with_reducible first | exact HB | (refine bl_set ?_ (by omega)) | apply bl_alloc | apply bl_drew | apply bl_drewN | fail)) hb; have hzB := HB.size) | fail)
            go_ret
            exact ⟨rfl, HB⟩
      · clear BC
        go_upto_region 23 with (first | (go_at_call 20; (with_reducible refine (tY.out _).mono ?_); rintro e w7 ⟨rfl, hb⟩; have HB := bl_step (w := w) (by repeat (with_reducible first | exact HB | (refine bl_set ?_ (by omega)) | apply bl_alloc | apply bl_drew | apply bl_drewN | fail)) hb; have hzB := HB.size; have K1 := Blk.on (by first | exact K1 | exact K1 #[] | exact K1 (.cells #[] 0) #[]) (by repeat (with_reducible first | exact K1 | exact K1 _ | exact K1 _ _ | apply Blk.alloc | apply Blk.drew | apply Blk.drewN | apply Blk.set5_0 | apply Blk.set5_1 | apply Blk.set5_2 | apply Blk.set5_3 | apply Blk.set5_4 | (apply Blk.off; (first | assumption | omega | (simp; omega))) | fail)) hb; (try clear cK1_0 cK1_1 cK1_2 cK1_3 cK1_4 fK1 lK1 nK1 mK1); obtain ⟨cK1_0, cK1_1, cK1_2, cK1_3, cK1_4, fK1, lK1, nK1, mK1⟩ := Blk.all5 K1; have K2 := Blk.on (by first | exact K2 | exact K2 #[] | exact K2 (.cells #[] 0) #[]) (by repeat (with_reducible first | exact K2 | exact K2 _ | exact K2 _ _ | apply Blk.alloc | apply Blk.drew | apply Blk.drewN | apply Blk.set4_0 | apply Blk.set4_1 | apply Blk.set4_2 | apply Blk.set4_3 | (apply Blk.off; (first | assumption | omega | (simp; omega))) | fail)) hb; (try clear cK2_0 cK2_1 cK2_2 cK2_3 fK2 lK2 nK2 mK2); obtain ⟨cK2_0, cK2_1, cK2_2, cK2_3, fK2, lK2, nK2, mK2⟩ := Blk.all4 K2; have c0 := cb (bl_step (bl_alloc (Below.refl w6.heap.size w6) _) hb) c0; have c1 := cb (bl_step (bl_alloc (Below.refl w6.heap.size w6) _) hb) c1; have c2 := cb (bl_step (bl_alloc (Below.refl w6.heap.size w6) _) hb) c2) | fail)
        clear K3 hb
        go_upto_region 24 with (first | (go_at_call 21; (with_reducible refine (dd.out _).mono ?_); rintro e w8 ⟨rfl, hb⟩; have HB := bl_step (w := w) (by repeat (with_reducible first | exact HB | (refine bl_set ?_ (by omega)) | apply bl_alloc | apply bl_drew | apply bl_drewN | fail)) hb; have hzB := HB.size; have K1 := Blk.on (by first | exact K1 | exact K1 #[] | exact K1 (.cells #[] 0) #[]) (by repeat (with_reducible first | exact K1 | exact K1 _ | exact K1 _ _ | apply Blk.alloc | apply Blk.drew | apply Blk.drewN | apply Blk.set5_0 | apply Blk.set5_1 | apply Blk.set5_2 | apply Blk.set5_3 | apply Blk.set5_4 | (apply Blk.off; (first | assumption | omega | (simp; omega))) | fail)) hb; (try clear cK1_0 cK1_1 cK1_2 cK1_3 cK1_4 fK1 lK1 nK1 mK1); obtain ⟨cK1_0, cK1_1, cK1_2, cK1_3, cK1_4, fK1, lK1, nK1, mK1⟩ := Blk.all5 K1; have K2 := Blk.on (by first | exact K2 | exact K2 #[] | exact K2 (.cells #[] 0) #[]) (by repeat (with_reducible first | exact K2 | exact K2 _ | exact K2 _ _ | apply Blk.alloc | apply Blk.drew | apply Blk.drewN | apply Blk.set4_0 | apply Blk.set4_1 | apply Blk.set4_2 | apply Blk.set4_3 | (apply Blk.off; (first | assumption | omega | (simp; omega))) | fail)) hb; (try clear cK2_0 cK2_1 cK2_2 cK2_3 fK2 lK2 nK2 mK2); obtain ⟨cK2_0, cK2_1, cK2_2, cK2_3, fK2, lK2, nK2, mK2⟩ := Blk.all4 K2) | fail)
        clear hb c0 c1 c2
        go_upto_region 25 with (first | (go_at_call 18; (with_reducible refine (aZ.out _).mono ?_); rintro e w9 ⟨rfl, hb⟩; have HB := bl_step (w := w) (by repeat (with_reducible first | exact HB | (refine bl_set ?_ (by omega)) | apply bl_alloc | apply bl_drew | apply bl_drewN | fail)) hb; have hzB := HB.size; have K1 := Blk.on (by first | exact K1 | exact K1 #[] | exact K1 (.cells #[] 0) #[]) (by repeat (with_reducible first | exact K1 | exact K1 _ | exact K1 _ _ | apply Blk.alloc | apply Blk.drew | apply Blk.drewN | apply Blk.set5_0 | apply Blk.set5_1 | apply Blk.set5_2 | apply Blk.set5_3 | apply Blk.set5_4 | (apply Blk.off; (first | assumption | omega | (simp; omega))) | fail)) hb; (try clear cK1_0 cK1_1 cK1_2 cK1_3 cK1_4 fK1 lK1 nK1 mK1); obtain ⟨cK1_0, cK1_1, cK1_2, cK1_3, cK1_4, fK1, lK1, nK1, mK1⟩ := Blk.all5 K1; have K2 := Blk.on (by first | exact K2 | exact K2 #[] | exact K2 (.cells #[] 0) #[]) (by repeat (with_reducible first | exact K2 | exact K2 _ | exact K2 _ _ | apply Blk.alloc | apply Blk.drew | apply Blk.drewN | apply Blk.set4_0 | apply Blk.set4_1 | apply Blk.set4_2 | apply Blk.set4_3 | (apply Blk.off; (first | assumption | omega | (simp; omega))) | fail)) hb; (try clear cK2_0 cK2_1 cK2_2 cK2_3 fK2 lK2 nK2 mK2); obtain ⟨cK2_0, cK2_1, cK2_2, cK2_3, fK2, lK2, nK2, mK2⟩ := Blk.all4 K2) | fail)
        clear hb
        rcases DC.out with ⟨hk6, rfl, rfl, rfl, rfl, rfl⟩ | ⟨rfl, rfl, rfl, rfl⟩
        · have hk7 : decide ((i : Int) < 5) = true := by simp; omega
          go_wp2_with (first | (go_at_call 20; with_reducible refine (tZ.out _).mono ?_; rintro e w' ⟨rfl, hb⟩; have HB := bl_step (w := w) (by repeat (with_reducible first | exact HB | (refine bl_set ?_ (by omega)) | apply bl_alloc | apply bl_drew | apply bl_drewN | fail)) hb; have hzB := HB.size) | fail)
          go_ret
          exact ⟨rfl, HB⟩
        · by_cases hk6 : i < 5
          · have hk7 : decide ((i : Int) < 5) = true := by simp; omega
            go_wp2_with (first | (go_at_call 20; with_reducible refine (tZ.out _).mono ?_; rintro e w' ⟨rfl, hb⟩; have HB := bl_step (w := w) (by repeat (with_reducible first | exact HB | (refine bl_set ?_ (by omega)) | apply bl_alloc | apply bl_drew | apply bl_drewN | fail)) hb; have hzB := HB.size) | fail)
            go_ret
            exact ⟨rfl, HB⟩
          · have hk7 : decide ((i : Int) < 5) = false := by simp; omega
            go_wp2_with (first | (go_at_call 20; with_reducible refine (tZ.out _).mono ?_; rintro e w' ⟨rfl, hb⟩; have HB := bl_step (w := w) (by repeat (with_reducible first | exact HB | (refine bl_set ?_ (by omega)) | apply bl_alloc | apply bl_drew | apply bl_drewN | fail)) hb; have hzB := HB.size) | fail)
            go_ret
            exact ⟨rfl, HB⟩
set_option maxRecDepth 100000 in
set_option maxHeartbeats 25600000 in
theorem pcut_7 (f Y Z : ByteArray) (slot size many cut : Int) (a0 a1 a2 a3 a4 Q S Zz M : Int) (OL : List OpV) (o : OpV) (k c : Nat) (w : World)
    (hf : f.size = 768) (hkd : wrap64 (Int.tmod (IntKind.u64.wrap many) 7) = (k : Int)) (hcd : wrap64 (Int.tmod (IntKind.u64.wrap cut) 97) = (c : Int)) (hk : k < 7) (hc : c ≤ 96)
    (hac : ∀ W : World, Calls Try.prog 18 #[.string f] W fun e w' => e = .returned (.tuple #[.agg #[.int .i64 a0, .int .i64 a1, .int .i64 a2, .int .i64 a3, .int .i64 a4], .int .i64 0]) ∧ Below W.heap.size W w')
    (hrc : ∀ W : World, Calls Try.prog 19 #[.string f, .int .i64 slot, .int .i64 size] W fun e w' => e = .returned (.tuple #[.agg #[.int .i64 Q, .int .i64 S, .int .i64 Zz, .int .i64 M], .int .i64 0]) ∧ Below W.heap.size W w')
    (htf : ∀ W : World, Calls Try.prog 20 #[.string f] W fun e w' => e = .returned (.bool true) ∧ Below W.heap.size W w') (htY : ∀ W : World, Calls Try.prog 20 #[.string Y] W fun e w' => e = .returned (.bool true) ∧ Below W.heap.size W w') (htZ : ∀ W : World, Calls Try.prog 20 #[.string Z] W fun e w' => e = .returned (.bool true) ∧ Below W.heap.size W w')
    (hap : ∀ W : World, Calls Try.prog 12 #[.string f, .agg #[.int .i64 Q, .int .i64 S, .int .i64 Zz, .int .i64 M]] W fun e w' => ∃ A c, e = .returned (.tuple #[.slice A 7 c, .int .i64 0]) ∧ Lies encOp 3 w' A OL ∧ Below W.heap.size W w')
    (hn : OL.length = 7) (hm : MayL OL) (hko : OL[k]? = some o) (hY : cutB (allB f (OL.take k)) o c = Y) (hZ : doB (allB f (OL.take k)) o = Z) (hq : (Q == a1) = false)
    (hAY : ∃ b0 b1 b2 b3 b4 : Int, (∀ W : World, Calls Try.prog 18 #[.string Y] W fun e w' => e = .returned (.tuple #[.agg #[.int .i64 b0, .int .i64 b1, .int .i64 b2, .int .i64 b3, .int .i64 b4], .int .i64 0]) ∧ Below W.heap.size W w') ∧ ((b0 = a0 ∧ b1 = a1 ∧ b2 = a2 ∧ b3 = a3 ∧ b4 = a4) ∨ (b1 = Q ∧ b2 = S ∧ b3 = Zz ∧ b4 = M)))
    (hAZ : ∃ b0 b1 b2 b3 b4 : Int, (∀ W : World, Calls Try.prog 18 #[.string Z] W fun e w' => e = .returned (.tuple #[.agg #[.int .i64 b0, .int .i64 b1, .int .i64 b2, .int .i64 b3, .int .i64 b4], .int .i64 0]) ∧ Below W.heap.size W w') ∧ ((k < 6 ∧ b0 = a0 ∧ b1 = a1 ∧ b2 = a2 ∧ b3 = a3 ∧ b4 = a4) ∨ (b1 = Q ∧ b2 = S ∧ b3 = Zz ∧ b4 = M))) :
    Calls Try.prog 4 #[.string f, .int .i64 slot, .int .i64 size, .int .i64 many, .int .i64 cut] w fun e w' => e = .returned (.bool true) ∧ Below w.heap.size w w' := by
  have HB := Below.refl w.heap.size w
  have ac := Lib.hid hac
  have rc := Lib.hid hrc
  have tf := Lib.hid htf
  have tY := Lib.hid htY
  have tZ := Lib.hid htZ
  have ap := Lib.hid hap
  have HN := Lib.hid hn
  have HM := Lib.hid hm
  have HY := Lib.hid hY
  have HZ := Lib.hid hZ
  have HKO := Lib.hid hko
  have HAY := Lib.hid hAY
  have HAZ := Lib.hid hAZ
  clear hac hrc htf htY htZ hap hn hm hY hZ hko hAY hAZ
  go_enter Try.func4, Try.ntmps4
  go_upto_region 4 with (first | (go_at_call 17; with_reducible refine (awake_c _).mono ?_; rintro e w' ⟨rfl, hb⟩; have HB := bl_step (w := w) (by repeat (with_reducible first | exact HB | (refine bl_set ?_ (by omega)) | apply bl_alloc | apply bl_drew | apply bl_drewN | fail)) hb; have hzB := HB.size) | (go_at_call 18; with_reducible refine (ac.out _).mono ?_; rintro e w1 ⟨rfl, hb⟩; have HB := bl_step (w := w) (by repeat (with_reducible first | exact HB | (refine bl_set ?_ (by omega)) | apply bl_alloc | apply bl_drew | apply bl_drewN | fail)) hb; have hzB := HB.size; have K1 := fun cs => Blk.new w1 cs 40) | fail)
  go_upto_region 7 with (first | (go_at_call 19; with_reducible refine (rc.out _).mono ?_; rintro e w2 ⟨rfl, hb⟩; have HB := bl_step (w := w) (by repeat (with_reducible first | exact HB | (refine bl_set ?_ (by omega)) | apply bl_alloc | apply bl_drew | apply bl_drewN | fail)) hb; have hzB := HB.size; have K1 := Blk.on (by first | exact K1 | exact K1 #[] | exact K1 (.cells #[] 0) #[]) (by repeat (with_reducible first | exact K1 | exact K1 _ | exact K1 _ _ | apply Blk.alloc | apply Blk.drew | apply Blk.drewN | apply Blk.set5_0 | apply Blk.set5_1 | apply Blk.set5_2 | apply Blk.set5_3 | apply Blk.set5_4 | (apply Blk.off; (first | assumption | omega | (simp; omega))) | fail)) hb; (try clear cK1_0 cK1_1 cK1_2 cK1_3 cK1_4 fK1 lK1 nK1 mK1); obtain ⟨cK1_0, cK1_1, cK1_2, cK1_3, cK1_4, fK1, lK1, nK1, mK1⟩ := Blk.all5 K1; have K2 := fun cs => Blk.new w2 cs 23) | (go_at_call 20; with_reducible refine (tf.out _).mono ?_; rintro e w' ⟨rfl, hb⟩; have HB := bl_step (w := w) (by repeat (with_reducible first | exact HB | (refine bl_set ?_ (by omega)) | apply bl_alloc | apply bl_drew | apply bl_drewN | fail)) hb; have hzB := HB.size; have K1 := Blk.on (by first | exact K1 | exact K1 #[] | exact K1 (.cells #[] 0) #[]) (by repeat (with_reducible first | exact K1 | exact K1 _ | exact K1 _ _ | apply Blk.alloc | apply Blk.drew | apply Blk.drewN | apply Blk.set5_0 | apply Blk.set5_1 | apply Blk.set5_2 | apply Blk.set5_3 | apply Blk.set5_4 | (apply Blk.off; (first | assumption | omega | (simp; omega))) | fail)) hb; (try clear cK1_0 cK1_1 cK1_2 cK1_3 cK1_4 fK1 lK1 nK1 mK1); obtain ⟨cK1_0, cK1_1, cK1_2, cK1_3, cK1_4, fK1, lK1, nK1, mK1⟩ := Blk.all5 K1; have K2 := Blk.on (by first | exact K2 | exact K2 #[] | exact K2 (.cells #[] 0) #[]) (by repeat (with_reducible first | exact K2 | exact K2 _ | exact K2 _ _ | apply Blk.alloc | apply Blk.drew | apply Blk.drewN | apply Blk.set4_0 | apply Blk.set4_1 | apply Blk.set4_2 | apply Blk.set4_3 | (apply Blk.off; (first | assumption | omega | (simp; omega))) | fail)) hb; (try clear cK2_0 cK2_1 cK2_2 cK2_3 fK2 lK2 nK2 mK2); obtain ⟨cK2_0, cK2_1, cK2_2, cK2_3, fK2, lK2, nK2, mK2⟩ := Blk.all4 K2) | fail)
  go_upto_region 8 with (first | (go_at_call 12; (with_reducible refine (ap.out _).mono ?_); rintro e w3 ⟨A, cp, rfl, hL, hb⟩; have HB := bl_step (w := w) (by repeat (with_reducible first | exact HB | (refine bl_set ?_ (by omega)) | apply bl_alloc | apply bl_drew | apply bl_drewN | fail)) hb; have hzB := HB.size; have K1 := Blk.on (by first | exact K1 | exact K1 #[] | exact K1 (.cells #[] 0) #[]) (by repeat (with_reducible first | exact K1 | exact K1 _ | exact K1 _ _ | apply Blk.alloc | apply Blk.drew | apply Blk.drewN | apply Blk.set5_0 | apply Blk.set5_1 | apply Blk.set5_2 | apply Blk.set5_3 | apply Blk.set5_4 | (apply Blk.off; (first | assumption | omega | (simp; omega))) | fail)) hb; (try clear cK1_0 cK1_1 cK1_2 cK1_3 cK1_4 fK1 lK1 nK1 mK1); obtain ⟨cK1_0, cK1_1, cK1_2, cK1_3, cK1_4, fK1, lK1, nK1, mK1⟩ := Blk.all5 K1; have K2 := Blk.on (by first | exact K2 | exact K2 #[] | exact K2 (.cells #[] 0) #[]) (by repeat (with_reducible first | exact K2 | exact K2 _ | exact K2 _ _ | apply Blk.alloc | apply Blk.drew | apply Blk.drewN | apply Blk.set4_0 | apply Blk.set4_1 | apply Blk.set4_2 | apply Blk.set4_3 | (apply Blk.off; (first | assumption | omega | (simp; omega))) | fail)) hb; (try clear cK2_0 cK2_1 cK2_2 cK2_3 fK2 lK2 nK2 mK2); obtain ⟨cK2_0, cK2_1, cK2_2, cK2_3, fK2, lK2, nK2, mK2⟩ := Blk.all4 K2) | fail)
  have R0 := row_of hL (by rw [HN.out]; decide) HM.out
  clear hL hb
  go_upto_region 13 with (first | (go_at_call 14; with_reducible refine (enum_c _ _).mono ?_; rintro e w' ⟨rfl, rfl⟩) | fail)
  rw [hkd]
  generalize w1.heap.size = g1 at *
  generalize w2.heap.size = g2 at *
  have BK1 : Aside (Blk w3 g1 #[.int .i64 a0, .int .i64 a1, .int .i64 a2, .int .i64 a3, .int .i64 a4] 40) := K1
  have BK2 : Aside (Blk w3 g2 #[.int .i64 Q, .int .i64 S, .int .i64 Zz, .int .i64 M] 23) := K2
  clear K1 K2 cK1_0 cK1_1 cK1_2 cK1_3 cK1_4 fK1 lK1 nK1 mK1 cK2_0 cK2_1 cK2_2 cK2_3 fK2 lK2 nK2 mK2 hkd
  go_loopg [18, 19] k (fun gg s18 s19 wr => ∃ i : Nat, i ≤ k ∧ k - i ≤ gg ∧ s19 = .int .i64 i ∧ s18 = .string (allB f (OL.take i)) ∧ Aside (Below w.heap.size w wr) ∧ Aside (Blk wr g1 #[.int .i64 a0, .int .i64 a1, .int .i64 a2, .int .i64 a3, .int .i64 a4] 40) ∧ Aside (Blk wr g2 #[.int .i64 Q, .int .i64 S, .int .i64 Zz, .int .i64 M] 23) ∧ Aside (Row wr A OL))
  case atStart => exact ⟨0, by omega, by omega, rfl, rfl, HB, BK1, BK2, R0⟩
  case round =>
    clear HB BK1 BK2 R0
    obtain ⟨i, hi, hg, rfl, rfl, BW, BA, BB, BR⟩ := hrel
    have HB := BW.out
    have K1 := BA.out
    obtain ⟨cK1_0, cK1_1, cK1_2, cK1_3, cK1_4, fK1, lK1, nK1, mK1⟩ := Blk.all5 K1
    have K2 := BB.out
    obtain ⟨cK2_0, cK2_1, cK2_2, cK2_3, fK2, lK2, nK2, mK2⟩ := Blk.all4 K2
    clear BW BA BB
    by_cases hlt : i < k
    · obtain ⟨b, off, x, rfl, hbs, hx, hok, c0, c1, c2⟩ := BR.out.at_ (j := i) (by rw [HN.out]; omega)
      have hmx := HM.out x (List.mem_of_getElem? hx)
      have hsz := all_size hf (HM.out.take i)
      have NX := Lib.hid (all_next (f := f) hx)
      have dd := Lib.hid (fun W : World => rdo_c (allB f (OL.take i)) x W (by omega) hok)
      rw [do_yes hsz hmx.1] at dd
      have om := Lib.hid (fun W : World => rOpMay_c x W hok)
      rw [hmx.1] at om
      have hi7 : (i : Int) < 7 := by omega
      have hi3 : (i : Int) < (k : Int) := by omega
      have hi0 : (0 : Int) ≤ (i : Int) := by omega
      clear hx hok hmx hsz
      go_upto_region 16 with (first | (go_at_call 21; (with_reducible refine (dd.out _).mono ?_); rintro e w5 ⟨rfl, hb⟩; have HB := bl_step (w := w) (by repeat (with_reducible first | exact HB | (refine bl_set ?_ (by omega)) | apply bl_alloc | apply bl_drew | apply bl_drewN | fail)) hb; have hzB := HB.size; have K1 := Blk.on (by first | exact K1 | exact K1 #[] | exact K1 (.cells #[] 0) #[]) (by repeat (with_reducible first | exact K1 | exact K1 _ | exact K1 _ _ | apply Blk.alloc | apply Blk.drew | apply Blk.drewN | apply Blk.set5_0 | apply Blk.set5_1 | apply Blk.set5_2 | apply Blk.set5_3 | apply Blk.set5_4 | (apply Blk.off; (first | assumption | omega | (simp; omega))) | fail)) hb; (try clear cK1_0 cK1_1 cK1_2 cK1_3 cK1_4 fK1 lK1 nK1 mK1); obtain ⟨cK1_0, cK1_1, cK1_2, cK1_3, cK1_4, fK1, lK1, nK1, mK1⟩ := Blk.all5 K1; have K2 := Blk.on (by first | exact K2 | exact K2 #[] | exact K2 (.cells #[] 0) #[]) (by repeat (with_reducible first | exact K2 | exact K2 _ | exact K2 _ _ | apply Blk.alloc | apply Blk.drew | apply Blk.drewN | apply Blk.set4_0 | apply Blk.set4_1 | apply Blk.set4_2 | apply Blk.set4_3 | (apply Blk.off; (first | assumption | omega | (simp; omega))) | fail)) hb; (try clear cK2_0 cK2_1 cK2_2 cK2_3 fK2 lK2 nK2 mK2); obtain ⟨cK2_0, cK2_1, cK2_2, cK2_3, fK2, lK2, nK2, mK2⟩ := Blk.all4 K2; have BR2 := BR.out.below hb; have c0 := cb hb c0; have c1 := cb hb c1; have c2 := cb hb c2) | fail)
      clear BR hb
      go_wp2_with (first | (go_at_call 22; (with_reducible refine (om.out _).mono ?_); rintro e w6 ⟨rfl, hb⟩; have HB := bl_step (w := w) (by repeat (with_reducible first | exact HB | (refine bl_set ?_ (by omega)) | apply bl_alloc | apply bl_drew | apply bl_drewN | fail)) hb; have hzB := HB.size; have K1 := Blk.on (by first | exact K1 | exact K1 #[] | exact K1 (.cells #[] 0) #[]) (by repeat (with_reducible first | exact K1 | exact K1 _ | exact K1 _ _ | apply Blk.alloc | apply Blk.drew | apply Blk.drewN | apply Blk.set5_0 | apply Blk.set5_1 | apply Blk.set5_2 | apply Blk.set5_3 | apply Blk.set5_4 | (apply Blk.off; (first | assumption | omega | (simp; omega))) | fail)) hb; (try clear cK1_0 cK1_1 cK1_2 cK1_3 cK1_4 fK1 lK1 nK1 mK1); obtain ⟨cK1_0, cK1_1, cK1_2, cK1_3, cK1_4, fK1, lK1, nK1, mK1⟩ := Blk.all5 K1; have K2 := Blk.on (by first | exact K2 | exact K2 #[] | exact K2 (.cells #[] 0) #[]) (by repeat (with_reducible first | exact K2 | exact K2 _ | exact K2 _ _ | apply Blk.alloc | apply Blk.drew | apply Blk.drewN | apply Blk.set4_0 | apply Blk.set4_1 | apply Blk.set4_2 | apply Blk.set4_3 | (apply Blk.off; (first | assumption | omega | (simp; omega))) | fail)) hb; (try clear cK2_0 cK2_1 cK2_2 cK2_3 fK2 lK2 nK2 mK2); obtain ⟨cK2_0, cK2_1, cK2_2, cK2_3, fK2, lK2, nK2, mK2⟩ := Blk.all4 K2) | fail)
      go_roundg (k - (i + 1))
      case measure => omega
      case rel => exact ⟨i + 1, by omega, by omega, by go_num, (by rw [NX.out]), HB, K1, K2, BR2.below hb⟩
    · obtain rfl : i = k := by omega
      obtain ⟨b, off, x, rfl, hbs, hx, hok, c0, c1, c2⟩ := BR.out.at_ (j := i) (by rw [HN.out]; omega)
      obtain rfl : x = o := by
        have := HKO.out
        rw [hx] at this
        exact Option.some.inj this
      have hmx := HM.out x (List.mem_of_getElem? hx)
      have hsz := all_size hf (HM.out.take i)
      have dd := Lib.hid (fun W : World => rdo_c (allB f (OL.take i)) x W (by omega) hok)
      rw [do_yes hsz hmx.1, HZ.out] at dd
      have ct := Lib.hid (fun W : World => rcut_c (allB f (OL.take i)) x (c : Int) W (by omega) hok)
      rw [show cutV (allB f (OL.take i)) x (c : Int) = #[.string Y, .int .i64 0] by simp [cutV, hsz, hmx.1, hc, HY.out, show (c : Int) ≤ 96 by omega]] at ct
      have hi7 : (i : Int) < 7 := by omega
      have hi3 : decide ((i : Int) < (i : Int)) = false := by simp
      have hi0 : (0 : Int) ≤ (i : Int) := by omega
      clear hx hok hmx hsz hlt hi
      obtain ⟨b0, b1, b2, b3, b4, hA, hBc⟩ := HAY.out
      have aY := Lib.hid hA
      obtain ⟨d0, d1, d2, d3, d4, hA2, hDc⟩ := HAZ.out
      have aZ := Lib.hid hA2
      have DC := Lib.hid hDc
      have BC := Lib.hid hBc
      clear hA hA2 hBc hDc
      go_upto_region 20 with (first | (go_at_call 23; rw [hcd]; (with_reducible refine (ct.out _).mono ?_); rintro e w5 ⟨rfl, hb⟩; have HB := bl_step (w := w) (by repeat (with_reducible first | exact HB | (refine bl_set ?_ (by omega)) | apply bl_alloc | apply bl_drew | apply bl_drewN | fail)) hb; have hzB := HB.size; have K1 := Blk.on (by first | exact K1 | exact K1 #[] | exact K1 (.cells #[] 0) #[]) (by repeat (with_reducible first | exact K1 | exact K1 _ | exact K1 _ _ | apply Blk.alloc | apply Blk.drew | apply Blk.drewN | apply Blk.set5_0 | apply Blk.set5_1 | apply Blk.set5_2 | apply Blk.set5_3 | apply Blk.set5_4 | (apply Blk.off; (first | assumption | omega | (simp; omega))) | fail)) hb; (try clear cK1_0 cK1_1 cK1_2 cK1_3 cK1_4 fK1 lK1 nK1 mK1); obtain ⟨cK1_0, cK1_1, cK1_2, cK1_3, cK1_4, fK1, lK1, nK1, mK1⟩ := Blk.all5 K1; have K2 := Blk.on (by first | exact K2 | exact K2 #[] | exact K2 (.cells #[] 0) #[]) (by repeat (with_reducible first | exact K2 | exact K2 _ | exact K2 _ _ | apply Blk.alloc | apply Blk.drew | apply Blk.drewN | apply Blk.set4_0 | apply Blk.set4_1 | apply Blk.set4_2 | apply Blk.set4_3 | (apply Blk.off; (first | assumption | omega | (simp; omega))) | fail)) hb; (try clear cK2_0 cK2_1 cK2_2 cK2_3 fK2 lK2 nK2 mK2); obtain ⟨cK2_0, cK2_1, cK2_2, cK2_3, fK2, lK2, nK2, mK2⟩ := Blk.all4 K2; have c0 := cb hb c0; have c1 := cb hb c1; have c2 := cb hb c2) | fail)
      clear BR hb hcd
      go_upto_region 21 with (first | (go_at_call 18; (with_reducible refine (aY.out _).mono ?_); rintro e w6 ⟨rfl, hb⟩; have HB := bl_step (w := w) (by repeat (with_reducible first | exact HB | (refine bl_set ?_ (by omega)) | apply bl_alloc | apply bl_drew | apply bl_drewN | fail)) hb; have hzB := HB.size; have K1 := Blk.on (by first | exact K1 | exact K1 #[] | exact K1 (.cells #[] 0) #[]) (by repeat (with_reducible first | exact K1 | exact K1 _ | exact K1 _ _ | apply Blk.alloc | apply Blk.drew | apply Blk.drewN | apply Blk.set5_0 | apply Blk.set5_1 | apply Blk.set5_2 | apply Blk.set5_3 | apply Blk.set5_4 | (apply Blk.off; (first | assumption | omega | (simp; omega))) | fail)) hb; (try clear cK1_0 cK1_1 cK1_2 cK1_3 cK1_4 fK1 lK1 nK1 mK1); obtain ⟨cK1_0, cK1_1, cK1_2, cK1_3, cK1_4, fK1, lK1, nK1, mK1⟩ := Blk.all5 K1; have K2 := Blk.on (by first | exact K2 | exact K2 #[] | exact K2 (.cells #[] 0) #[]) (by repeat (with_reducible first | exact K2 | exact K2 _ | exact K2 _ _ | apply Blk.alloc | apply Blk.drew | apply Blk.drewN | apply Blk.set4_0 | apply Blk.set4_1 | apply Blk.set4_2 | apply Blk.set4_3 | (apply Blk.off; (first | assumption | omega | (simp; omega))) | fail)) hb; (try clear cK2_0 cK2_1 cK2_2 cK2_3 fK2 lK2 nK2 mK2); obtain ⟨cK2_0, cK2_1, cK2_2, cK2_3, fK2, lK2, nK2, mK2⟩ := Blk.all4 K2; have c0 := cb hb c0; have c1 := cb hb c1; have c2 := cb hb c2; have K3 := fun cs => Blk.new w6 cs 40) | fail)
      rcases BC.out with ⟨rfl, rfl, rfl, rfl, rfl⟩ | ⟨rfl, rfl, rfl, rfl⟩
      · clear BC
        go_upto_region 23 with (first | (go_at_call 20; (with_reducible refine (tY.out _).mono ?_); rintro e w7 ⟨rfl, hb⟩; have HB := bl_step (w := w) (by repeat (with_reducible first | exact HB | (refine bl_set ?_ (by omega)) | apply bl_alloc | apply bl_drew | apply bl_drewN | fail)) hb; have hzB := HB.size; have K1 := Blk.on (by first | exact K1 | exact K1 #[] | exact K1 (.cells #[] 0) #[]) (by repeat (with_reducible first | exact K1 | exact K1 _ | exact K1 _ _ | apply Blk.alloc | apply Blk.drew | apply Blk.drewN | apply Blk.set5_0 | apply Blk.set5_1 | apply Blk.set5_2 | apply Blk.set5_3 | apply Blk.set5_4 | (apply Blk.off; (first | assumption | omega | (simp; omega))) | fail)) hb; (try clear cK1_0 cK1_1 cK1_2 cK1_3 cK1_4 fK1 lK1 nK1 mK1); obtain ⟨cK1_0, cK1_1, cK1_2, cK1_3, cK1_4, fK1, lK1, nK1, mK1⟩ := Blk.all5 K1; have K2 := Blk.on (by first | exact K2 | exact K2 #[] | exact K2 (.cells #[] 0) #[]) (by repeat (with_reducible first | exact K2 | exact K2 _ | exact K2 _ _ | apply Blk.alloc | apply Blk.drew | apply Blk.drewN | apply Blk.set4_0 | apply Blk.set4_1 | apply Blk.set4_2 | apply Blk.set4_3 | (apply Blk.off; (first | assumption | omega | (simp; omega))) | fail)) hb; (try clear cK2_0 cK2_1 cK2_2 cK2_3 fK2 lK2 nK2 mK2); obtain ⟨cK2_0, cK2_1, cK2_2, cK2_3, fK2, lK2, nK2, mK2⟩ := Blk.all4 K2; have c0 := cb (bl_step (bl_alloc (Below.refl w6.heap.size w6) _) hb) c0; have c1 := cb (bl_step (bl_alloc (Below.refl w6.heap.size w6) _) hb) c1; have c2 := cb (bl_step (bl_alloc (Below.refl w6.heap.size w6) _) hb) c2) | fail)
        clear K3 hb
        go_upto_region 24 with (first | (go_at_call 21; (with_reducible refine (dd.out _).mono ?_); rintro e w8 ⟨rfl, hb⟩; have HB := bl_step (w := w) (by repeat (with_reducible first | exact HB | (refine bl_set ?_ (by omega)) | apply bl_alloc | apply bl_drew | apply bl_drewN | fail)) hb; have hzB := HB.size; have K1 := Blk.on (by first | exact K1 | exact K1 #[] | exact K1 (.cells #[] 0) #[]) (by repeat (with_reducible first | exact K1 | exact K1 _ | exact K1 _ _ | apply Blk.alloc | apply Blk.drew | apply Blk.drewN | apply Blk.set5_0 | apply Blk.set5_1 | apply Blk.set5_2 | apply Blk.set5_3 | apply Blk.set5_4 | (apply Blk.off; (first | assumption | omega | (simp; omega))) | fail)) hb; (try clear cK1_0 cK1_1 cK1_2 cK1_3 cK1_4 fK1 lK1 nK1 mK1); obtain ⟨cK1_0, cK1_1, cK1_2, cK1_3, cK1_4, fK1, lK1, nK1, mK1⟩ := Blk.all5 K1; have K2 := Blk.on (by first | exact K2 | exact K2 #[] | exact K2 (.cells #[] 0) #[]) (by repeat (with_reducible first | exact K2 | exact K2 _ | exact K2 _ _ | apply Blk.alloc | apply Blk.drew | apply Blk.drewN | apply Blk.set4_0 | apply Blk.set4_1 | apply Blk.set4_2 | apply Blk.set4_3 | (apply Blk.off; (first | assumption | omega | (simp; omega))) | fail)) hb; (try clear cK2_0 cK2_1 cK2_2 cK2_3 fK2 lK2 nK2 mK2); obtain ⟨cK2_0, cK2_1, cK2_2, cK2_3, fK2, lK2, nK2, mK2⟩ := Blk.all4 K2) | fail)
        clear hb c0 c1 c2
        go_upto_region 25 with (first | (go_at_call 18; (with_reducible refine (aZ.out _).mono ?_); rintro e w9 ⟨rfl, hb⟩; have HB := bl_step (w := w) (by repeat (with_reducible first | exact HB | (refine bl_set ?_ (by omega)) | apply bl_alloc | apply bl_drew | apply bl_drewN | fail)) hb; have hzB := HB.size; have K1 := Blk.on (by first | exact K1 | exact K1 #[] | exact K1 (.cells #[] 0) #[]) (by repeat (with_reducible first | exact K1 | exact K1 _ | exact K1 _ _ | apply Blk.alloc | apply Blk.drew | apply Blk.drewN | apply Blk.set5_0 | apply Blk.set5_1 | apply Blk.set5_2 | apply Blk.set5_3 | apply Blk.set5_4 | (apply Blk.off; (first | assumption | omega | (simp; omega))) | fail)) hb; (try clear cK1_0 cK1_1 cK1_2 cK1_3 cK1_4 fK1 lK1 nK1 mK1); obtain ⟨cK1_0, cK1_1, cK1_2, cK1_3, cK1_4, fK1, lK1, nK1, mK1⟩ := Blk.all5 K1; have K2 := Blk.on (by first | exact K2 | exact K2 #[] | exact K2 (.cells #[] 0) #[]) (by repeat (with_reducible first | exact K2 | exact K2 _ | exact K2 _ _ | apply Blk.alloc | apply Blk.drew | apply Blk.drewN | apply Blk.set4_0 | apply Blk.set4_1 | apply Blk.set4_2 | apply Blk.set4_3 | (apply Blk.off; (first | assumption | omega | (simp; omega))) | fail)) hb; (try clear cK2_0 cK2_1 cK2_2 cK2_3 fK2 lK2 nK2 mK2); obtain ⟨cK2_0, cK2_1, cK2_2, cK2_3, fK2, lK2, nK2, mK2⟩ := Blk.all4 K2) | fail)
        clear hb
        rcases DC.out with ⟨hk6, rfl, rfl, rfl, rfl, rfl⟩ | ⟨rfl, rfl, rfl, rfl⟩
        · have hk7 : decide ((i : Int) < 6) = true := by simp; omega
          go_wp2_with (first | (go_at_call 20; with_reducible refine (tZ.out _).mono ?_; rintro e w' ⟨rfl, hb⟩; have HB := bl_step (w := w) (by repeat (with_reducible first | exact HB | (refine bl_set ?_ (by omega)) | apply bl_alloc | apply bl_drew | apply bl_drewN | fail)) hb; have hzB := HB.size) | fail)
          go_ret
          exact ⟨rfl, HB⟩
        · by_cases hk6 : i < 6
          · have hk7 : decide ((i : Int) < 6) = true := by simp; omega
            go_wp2_with (first | (go_at_call 20; with_reducible refine (tZ.out _).mono ?_; rintro e w' ⟨rfl, hb⟩; have HB := bl_step (w := w) (by repeat (with_reducible first | exact HB | (refine bl_set ?_ (by omega)) | apply bl_alloc | apply bl_drew | apply bl_drewN | fail)) hb; have hzB := HB.size) | fail)
            go_ret
            exact ⟨rfl, HB⟩
          · have hk7 : decide ((i : Int) < 6) = false := by simp; omega
            go_wp2_with (first | (go_at_call 20; with_reducible refine (tZ.out _).mono ?_; rintro e w' ⟨rfl, hb⟩; have HB := bl_step (w := w) (by repeat (with_reducible first | exact HB | (refine bl_set ?_ (by omega)) | apply bl_alloc | apply bl_drew | apply bl_drewN | fail)) hb; have hzB := HB.size) | fail)
            go_ret
            exact ⟨rfl, HB⟩
      · clear BC
        go_upto_region 23 with (first | (go_at_call 20; (with_reducible refine (tY.out _).mono ?_); rintro e w7 ⟨rfl, hb⟩; have HB := bl_step (w := w) (by repeat (with_reducible first | exact HB | (refine bl_set ?_ (by omega)) | apply bl_alloc | apply bl_drew | apply bl_drewN | fail)) hb; have hzB := HB.size; have K1 := Blk.on (by first | exact K1 | exact K1 #[] | exact K1 (.cells #[] 0) #[]) (by repeat (with_reducible first | exact K1 | exact K1 _ | exact K1 _ _ | apply Blk.alloc | apply Blk.drew | apply Blk.drewN | apply Blk.set5_0 | apply Blk.set5_1 | apply Blk.set5_2 | apply Blk.set5_3 | apply Blk.set5_4 | (apply Blk.off; (first | assumption | omega | (simp; omega))) | fail)) hb; (try clear cK1_0 cK1_1 cK1_2 cK1_3 cK1_4 fK1 lK1 nK1 mK1); obtain ⟨cK1_0, cK1_1, cK1_2, cK1_3, cK1_4, fK1, lK1, nK1, mK1⟩ := Blk.all5 K1; have K2 := Blk.on (by first | exact K2 | exact K2 #[] | exact K2 (.cells #[] 0) #[]) (by repeat (with_reducible first | exact K2 | exact K2 _ | exact K2 _ _ | apply Blk.alloc | apply Blk.drew | apply Blk.drewN | apply Blk.set4_0 | apply Blk.set4_1 | apply Blk.set4_2 | apply Blk.set4_3 | (apply Blk.off; (first | assumption | omega | (simp; omega))) | fail)) hb; (try clear cK2_0 cK2_1 cK2_2 cK2_3 fK2 lK2 nK2 mK2); obtain ⟨cK2_0, cK2_1, cK2_2, cK2_3, fK2, lK2, nK2, mK2⟩ := Blk.all4 K2; have c0 := cb (bl_step (bl_alloc (Below.refl w6.heap.size w6) _) hb) c0; have c1 := cb (bl_step (bl_alloc (Below.refl w6.heap.size w6) _) hb) c1; have c2 := cb (bl_step (bl_alloc (Below.refl w6.heap.size w6) _) hb) c2) | fail)
        clear K3 hb
        go_upto_region 24 with (first | (go_at_call 21; (with_reducible refine (dd.out _).mono ?_); rintro e w8 ⟨rfl, hb⟩; have HB := bl_step (w := w) (by repeat (with_reducible first | exact HB | (refine bl_set ?_ (by omega)) | apply bl_alloc | apply bl_drew | apply bl_drewN | fail)) hb; have hzB := HB.size; have K1 := Blk.on (by first | exact K1 | exact K1 #[] | exact K1 (.cells #[] 0) #[]) (by repeat (with_reducible first | exact K1 | exact K1 _ | exact K1 _ _ | apply Blk.alloc | apply Blk.drew | apply Blk.drewN | apply Blk.set5_0 | apply Blk.set5_1 | apply Blk.set5_2 | apply Blk.set5_3 | apply Blk.set5_4 | (apply Blk.off; (first | assumption | omega | (simp; omega))) | fail)) hb; (try clear cK1_0 cK1_1 cK1_2 cK1_3 cK1_4 fK1 lK1 nK1 mK1); obtain ⟨cK1_0, cK1_1, cK1_2, cK1_3, cK1_4, fK1, lK1, nK1, mK1⟩ := Blk.all5 K1; have K2 := Blk.on (by first | exact K2 | exact K2 #[] | exact K2 (.cells #[] 0) #[]) (by repeat (with_reducible first | exact K2 | exact K2 _ | exact K2 _ _ | apply Blk.alloc | apply Blk.drew | apply Blk.drewN | apply Blk.set4_0 | apply Blk.set4_1 | apply Blk.set4_2 | apply Blk.set4_3 | (apply Blk.off; (first | assumption | omega | (simp; omega))) | fail)) hb; (try clear cK2_0 cK2_1 cK2_2 cK2_3 fK2 lK2 nK2 mK2); obtain ⟨cK2_0, cK2_1, cK2_2, cK2_3, fK2, lK2, nK2, mK2⟩ := Blk.all4 K2) | fail)
        clear hb c0 c1 c2
        go_upto_region 25 with (first | (go_at_call 18; (with_reducible refine (aZ.out _).mono ?_); rintro e w9 ⟨rfl, hb⟩; have HB := bl_step (w := w) (by repeat (with_reducible first | exact HB | (refine bl_set ?_ (by omega)) | apply bl_alloc | apply bl_drew | apply bl_drewN | fail)) hb; have hzB := HB.size; have K1 := Blk.on (by first | exact K1 | exact K1 #[] | exact K1 (.cells #[] 0) #[]) (by repeat (with_reducible first | exact K1 | exact K1 _ | exact K1 _ _ | apply Blk.alloc | apply Blk.drew | apply Blk.drewN | apply Blk.set5_0 | apply Blk.set5_1 | apply Blk.set5_2 | apply Blk.set5_3 | apply Blk.set5_4 | (apply Blk.off; (first | assumption | omega | (simp; omega))) | fail)) hb; (try clear cK1_0 cK1_1 cK1_2 cK1_3 cK1_4 fK1 lK1 nK1 mK1); obtain ⟨cK1_0, cK1_1, cK1_2, cK1_3, cK1_4, fK1, lK1, nK1, mK1⟩ := Blk.all5 K1; have K2 := Blk.on (by first | exact K2 | exact K2 #[] | exact K2 (.cells #[] 0) #[]) (by repeat (with_reducible first | exact K2 | exact K2 _ | exact K2 _ _ | apply Blk.alloc | apply Blk.drew | apply Blk.drewN | apply Blk.set4_0 | apply Blk.set4_1 | apply Blk.set4_2 | apply Blk.set4_3 | (apply Blk.off; (first | assumption | omega | (simp; omega))) | fail)) hb; (try clear cK2_0 cK2_1 cK2_2 cK2_3 fK2 lK2 nK2 mK2); obtain ⟨cK2_0, cK2_1, cK2_2, cK2_3, fK2, lK2, nK2, mK2⟩ := Blk.all4 K2) | fail)
        clear hb
        rcases DC.out with ⟨hk6, rfl, rfl, rfl, rfl, rfl⟩ | ⟨rfl, rfl, rfl, rfl⟩
        · have hk7 : decide ((i : Int) < 6) = true := by simp; omega
          go_wp2_with (first | (go_at_call 20; with_reducible refine (tZ.out _).mono ?_; rintro e w' ⟨rfl, hb⟩; have HB := bl_step (w := w) (by repeat (with_reducible first | exact HB | (refine bl_set ?_ (by omega)) | apply bl_alloc | apply bl_drew | apply bl_drewN | fail)) hb; have hzB := HB.size) | fail)
          go_ret
          exact ⟨rfl, HB⟩
        · by_cases hk6 : i < 6
          · have hk7 : decide ((i : Int) < 6) = true := by simp; omega
            go_wp2_with (first | (go_at_call 20; with_reducible refine (tZ.out _).mono ?_; rintro e w' ⟨rfl, hb⟩; have HB := bl_step (w := w) (by repeat (with_reducible first | exact HB | (refine bl_set ?_ (by omega)) | apply bl_alloc | apply bl_drew | apply bl_drewN | fail)) hb; have hzB := HB.size) | fail)
            go_ret
            exact ⟨rfl, HB⟩
          · have hk7 : decide ((i : Int) < 6) = false := by simp; omega
            go_wp2_with (first | (go_at_call 20; with_reducible refine (tZ.out _).mono ?_; rintro e w' ⟨rfl, hb⟩; have HB := bl_step (w := w) (by repeat (with_reducible first | exact HB | (refine bl_set ?_ (by omega)) | apply bl_alloc | apply bl_drew | apply bl_drewN | fail)) hb; have hzB := HB.size) | fail)
            go_ret
            exact ⟨rfl, HB⟩
end Go.Proofs.Ytimnhdmpfndeaaa.Pl
