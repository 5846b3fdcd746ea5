/- Layer 7: the references' Active. -/
import Derived.Test.YtimnhdmpfndeaaaCha
namespace Go.Proofs.Ytimnhdmpfndeaaa.Ch
open Go.RowKit Go.Proofs.Ytimnhdmpfndeaaa.Kt Go.Proofs.Ytimnhdmpfndeaaa.Lw Go.Proofs.Ytimnhdmpfndeaaa.St Go.Proofs.Ytimnhdmpfndeaaa.Nm Go.Proofs.Ytimnhdmpfndeaaa.By Go.Proofs.Ytimnhdmpfndeaaa.En Go.Proofs.Ytimnhdmpfndeaaa.Jr Go.Proofs.Ytimnhdmpfndeaaa.Im Go.Proofs.Ytimnhdmpfndeaaa.Sl
set_option linter.unusedVariables false
set_option linter.unusedSimpArgs false
attribute [local irreducible] gotB goodB Cr.crcB nQ nS nZ nM placeB
theorem act_some {f : ByteArray} {p : PlV} (h : activeO f = some p) : actV f = #[.int .i64 p.at_, .int .i64 p.q, .int .i64 p.s, .int .i64 p.z, .int .i64 p.m] ∧ actE f = 0 := by simp [actV, actE, h]
theorem act_none {f : ByteArray} (h : activeO f = none) : actV f = #[.int .i64 0, .int .i64 0, .int .i64 0, .int .i64 0, .int .i64 0] ∧ actE f = 701 := by simp [actV, actE, h]
/-- the best of the first n: its place in the row. -/
def BestAt (f : ByteArray) (n : Nat) (b : Int) : Prop := (b = -1 ∧ bestL f ((scanL f).take n) = none) ∨ ∃ (j : Nat) (p : PlV), b = (j : Int) ∧ j < n ∧ (scanL f)[j]? = some p ∧ bestL f ((scanL f).take n) = some p
theorem best_next {f : ByteArray} {n : Nat} {x : PlV} (hx : (scanL f)[n]? = some x) : bestL f ((scanL f).take (n + 1)) = stepB f (bestL f ((scanL f).take n)) x := by
  have hn : n < (scanL f).length := (List.getElem?_eq_some_iff.1 hx).1
  rw [List.take_add_one, hx]
  simp only [bestL, List.foldl_append, Option.toList_some, List.foldl_cons, List.foldl_nil]
theorem best_stay {f : ByteArray} {k : Nat} {b : Int} (h : bestL f ((scanL f).take (k + 1)) = bestL f ((scanL f).take k)) (hb : BestAt f k b) : BestAt f (k + 1) b := by
  rcases hb with ⟨h1, h2⟩ | ⟨j, p, h1, h2, h3, h4⟩
  · exact .inl ⟨h1, by rw [h, h2]⟩
  · exact .inr ⟨j, p, h1, by omega, h3, by rw [h, h4]⟩
theorem best_here {f : ByteArray} {k : Nat} {x : PlV} (h : bestL f ((scanL f).take (k + 1)) = some x) (hx : (scanL f)[k]? = some x) : BestAt f (k + 1) (k : Int) := .inr ⟨k, x, rfl, by omega, hx, h⟩
set_option maxHeartbeats 1600000 in
theorem ractive_no (f : ByteArray) (w : World) (h : f.size ≤ 9223372036854775807) (hf : ¬ f.size = 768) : Calls Try.prog 18 #[.string f] w fun e w' => e = .returned (.tuple #[.agg #[.int .i64 0, .int .i64 0, .int .i64 0, .int .i64 0, .int .i64 0], .int .i64 700]) ∧ Below w.heap.size w w' := by
  have HB := Below.refl w.heap.size w
  have K0 := Blk.new w #[.int .i64 0, .int .i64 0, .int .i64 0, .int .i64 0, .int .i64 0] 40
  have sc := Lib.hid (fun W : World => rscan_no f W h hf)
  clear hf
  go_enter Try.func18, Try.ntmps18
  go_wp2_with (first | (go_at_call 33; with_reducible refine (sc.out _).mono ?_; rintro e w' ⟨rfl, rfl⟩) | fail)
  exact bodyPost_ret (v := .tuple #[.agg #[.int .i64 0, .int .i64 0, .int .i64 0, .int .i64 0, .int .i64 0], .int .i64 700]) (by simp [results, Try.results18, go_sem, *]) rfl ⟨rfl, (by repeat (with_reducible first | exact Below.refl _ _ | assumption | (refine bl_set ?_ (by omega)) | apply bl_alloc | apply bl_drewN | apply bl_drew | (refine bl_step ?_ (by assumption)) | fail))⟩
set_option maxRecDepth 100000 in
set_option maxHeartbeats 12800000 in
theorem ractive_c (f : ByteArray) (w : World) (hf : f.size = 768) : Calls Try.prog 18 #[.string f] w fun e w' => e = .returned (.tuple #[.agg (actV f), .int .i64 (actE f)]) ∧ Below w.heap.size w w' := by
  have HB := Below.refl w.heap.size w
  have K0 := Blk.new w #[.int .i64 0, .int .i64 0, .int .i64 0, .int .i64 0, .int .i64 0] 40
  have sc := Lib.hid (fun W : World => rscan_yes f W hf)
  have HF := Lib.hid hf
  clear hf
  go_enter Try.func18, Try.ntmps18
  go_wp2_with (first | (go_at_call 33; (with_reducible refine (sc.out _).mono ?_); rintro e w' ⟨A, c, rfl, hown, hb⟩; have HB := bl_step (w := w) (by repeat (with_reducible first | exact HB | (refine bl_set ?_ (by omega)) | apply bl_alloc | apply bl_drew | apply bl_drewN | fail)) hb; have hzB := HB.size; have K0 := Blk.on (by first | exact K0 | exact K0 #[] | exact K0 (.cells #[] 0) #[]) (by repeat (with_reducible first | exact K0 | exact K0 _ | exact K0 _ _ | apply Blk.alloc | apply Blk.drew | apply Blk.drewN | apply Blk.set5_0 | apply Blk.set5_1 | apply Blk.set5_2 | apply Blk.set5_3 | apply Blk.set5_4 | (apply Blk.off; (first | assumption | omega | (simp; omega))) | fail)) hb; (try clear cK0_0 cK0_1 cK0_2 cK0_3 cK0_4 fK0 lK0 nK0 mK0); obtain ⟨cK0_0, cK0_1, cK0_2, cK0_3, cK0_4, fK0, lK0, nK0, mK0⟩ := Blk.all5 K0) | fail)
  have hln : (scanL f).length ≤ 8 := scanN_le f 8
  have LL := Lib.hid (lies_own encP_len hown rfl)
  clear hown
  obtain ⟨n, hn⟩ : ∃ n, (scanL f).length = n := ⟨_, rfl⟩
  rw [hn] at hln ⊢
  have HN := Lib.hid hn
  clear hn cK0_0 cK0_1 cK0_2 cK0_3 cK0_4 fK0 lK0 nK0 mK0 hb hzB sc
  go_loopg [6, 7, 8, 9] n (fun gg s6 s7 _ _ wr => ∃ (k : Nat) (b : Int), k ≤ n ∧ n - k ≤ gg ∧ s7 = .int .i64 k ∧ s6 = .int .i64 b ∧ -1 ≤ b ∧ b < n ∧ Aside (BestAt f k b) ∧ Aside (Below w.heap.size w wr) ∧ Aside (Blk wr w.heap.size #[.int .i64 0, .int .i64 0, .int .i64 0, .int .i64 0, .int .i64 0] 40) ∧ Aside (Lies encP 5 wr A (scanL f)))
  case atStart => exact ⟨0, -1, by omega, by omega, rfl, rfl, by omega, by omega, .inl ⟨rfl, by simp [bestL]⟩, HB, K0, LL.out⟩
  case round =>
    clear HB K0 LL
    obtain ⟨k, b, hk, hg, rfl, rfl, hb0, hb1, BB, BW, BK, BL⟩ := hrel
    have HB := BW.out
    have K0 := BK.out
    have hzB := HB.size
    obtain ⟨cK0_0, cK0_1, cK0_2, cK0_3, cK0_4, fK0, lK0, nK0, mK0⟩ := Blk.all5 K0
    clear BW BK
    by_cases hlt : k < n
    · have hlz : decide ((k : Int) < (n : Int)) = true := by simp; omega
      obtain ⟨ab, off, x, rfl, hbs, hx, c0, c1, c2, c3, c4⟩ := lies_at BL.out (j := k) (by have := HN.out; omega)
      have hok := scan_ok (List.mem_of_getElem? hx)
      have gd := Lib.hid (fun W : World => rgood_c f x.q x.s x.z x.m W HF.out hok.may)
      have BN := Lib.hid (best_next hx)
      have HX := Lib.hid hx
      clear hx hok
      cases hgd : goodB f x.s x.z x.m
      · rw [hgd] at gd
        have hst := Lib.hid (show bestL f ((scanL f).take (k + 1)) = bestL f ((scanL f).take k) by rw [BN.out, step_no hgd])
        clear hgd
        go_upto_region 9 with (first | (go_at_call 42; with_reducible refine (gd.out _).mono ?_; rintro e w' ⟨rfl, hb⟩; have HB := bl_step (w := w) (by repeat (with_reducible first | exact HB | (refine bl_set ?_ (by omega)) | apply bl_alloc | apply bl_drew | apply bl_drewN | fail)) hb; have hzB := HB.size; have K0 := Blk.on (by first | exact K0 | exact K0 #[] | exact K0 (.cells #[] 0) #[]) (by repeat (with_reducible first | exact K0 | exact K0 _ | exact K0 _ _ | apply Blk.alloc | apply Blk.drew | apply Blk.drewN | apply Blk.set5_0 | apply Blk.set5_1 | apply Blk.set5_2 | apply Blk.set5_3 | apply Blk.set5_4 | (apply Blk.off; (first | assumption | omega | (simp; omega))) | fail)) hb; (try clear cK0_0 cK0_1 cK0_2 cK0_3 cK0_4 fK0 lK0 nK0 mK0); obtain ⟨cK0_0, cK0_1, cK0_2, cK0_3, cK0_4, fK0, lK0, nK0, mK0⟩ := Blk.all5 K0) | fail)
        have BL2 := BL.out.below hb
        clear hb BL gd
        have qK0_0 := fun s : Wld _ => Wld.cell cK0_0 s; have qK0_1 := fun s : Wld _ => Wld.cell cK0_1 s; have qK0_2 := fun s : Wld _ => Wld.cell cK0_2 s; have qK0_3 := fun s : Wld _ => Wld.cell cK0_3 s; have qK0_4 := fun s : Wld _ => Wld.cell cK0_4 s
        refine wld_lit (by kernel_rfl) (by kernel_rfl) ?_
        repeat (go_big_quiet_step (fail))
        refine wpQuiet_nil ?_; refine Wld.elim ?_; intro w' hb; clear qK0_0 qK0_1 qK0_2 qK0_3 qK0_4; have HB := bl_step (w := w) (by repeat (with_reducible first | exact HB | (refine bl_set ?_ (by omega)) | apply bl_alloc | apply bl_drew | apply bl_drewN | fail)) hb; have hzB := HB.size; have K0 := Blk.on (by first | exact K0 | exact K0 #[] | exact K0 (.cells #[] 0) #[]) (by repeat (with_reducible first | exact K0 | exact K0 _ | exact K0 _ _ | apply Blk.alloc | apply Blk.drew | apply Blk.drewN | apply Blk.set5_0 | apply Blk.set5_1 | apply Blk.set5_2 | apply Blk.set5_3 | apply Blk.set5_4 | (apply Blk.off; (first | assumption | omega | (simp; omega))) | fail)) hb; (try clear cK0_0 cK0_1 cK0_2 cK0_3 cK0_4 fK0 lK0 nK0 mK0); obtain ⟨cK0_0, cK0_1, cK0_2, cK0_3, cK0_4, fK0, lK0, nK0, mK0⟩ := Blk.all5 K0
        have BL3 := BL2.below hb
        go_wp2_with fail
        go_roundg (n - (k + 1))
        case measure => omega
        case rel => exact ⟨k + 1, b, by omega, by omega, by go_num, rfl, by omega, by omega, best_stay hst.out BB.out, HB, K0, BL3⟩
      · rw [hgd] at gd
        rcases BB.out with ⟨rfl, hno⟩ | ⟨j, p, rfl, hj, hp, hbp⟩
        · have hst := Lib.hid (show bestL f ((scanL f).take (k + 1)) = some x by rw [BN.out, hno, step_new hgd])
          clear hgd hno BB
          go_upto_region 9 with (first | (go_at_call 42; with_reducible refine (gd.out _).mono ?_; rintro e w' ⟨rfl, hb⟩; have HB := bl_step (w := w) (by repeat (with_reducible first | exact HB | (refine bl_set ?_ (by omega)) | apply bl_alloc | apply bl_drew | apply bl_drewN | fail)) hb; have hzB := HB.size; have K0 := Blk.on (by first | exact K0 | exact K0 #[] | exact K0 (.cells #[] 0) #[]) (by repeat (with_reducible first | exact K0 | exact K0 _ | exact K0 _ _ | apply Blk.alloc | apply Blk.drew | apply Blk.drewN | apply Blk.set5_0 | apply Blk.set5_1 | apply Blk.set5_2 | apply Blk.set5_3 | apply Blk.set5_4 | (apply Blk.off; (first | assumption | omega | (simp; omega))) | fail)) hb; (try clear cK0_0 cK0_1 cK0_2 cK0_3 cK0_4 fK0 lK0 nK0 mK0); obtain ⟨cK0_0, cK0_1, cK0_2, cK0_3, cK0_4, fK0, lK0, nK0, mK0⟩ := Blk.all5 K0) | fail)
          have BL2 := BL.out.below hb
          clear hb BL gd
          have qK0_0 := fun s : Wld _ => Wld.cell cK0_0 s; have qK0_1 := fun s : Wld _ => Wld.cell cK0_1 s; have qK0_2 := fun s : Wld _ => Wld.cell cK0_2 s; have qK0_3 := fun s : Wld _ => Wld.cell cK0_3 s; have qK0_4 := fun s : Wld _ => Wld.cell cK0_4 s
          refine wld_lit (by kernel_rfl) (by kernel_rfl) ?_
          repeat (go_big_quiet_step (fail))
          refine wpQuiet_nil ?_; refine Wld.elim ?_; intro w' hb; clear qK0_0 qK0_1 qK0_2 qK0_3 qK0_4; have HB := bl_step (w := w) (by repeat (with_reducible first | exact HB | (refine bl_set ?_ (by omega)) | apply bl_alloc | apply bl_drew | apply bl_drewN | fail)) hb; have hzB := HB.size; have K0 := Blk.on (by first | exact K0 | exact K0 #[] | exact K0 (.cells #[] 0) #[]) (by repeat (with_reducible first | exact K0 | exact K0 _ | exact K0 _ _ | apply Blk.alloc | apply Blk.drew | apply Blk.drewN | apply Blk.set5_0 | apply Blk.set5_1 | apply Blk.set5_2 | apply Blk.set5_3 | apply Blk.set5_4 | (apply Blk.off; (first | assumption | omega | (simp; omega))) | fail)) hb; (try clear cK0_0 cK0_1 cK0_2 cK0_3 cK0_4 fK0 lK0 nK0 mK0); obtain ⟨cK0_0, cK0_1, cK0_2, cK0_3, cK0_4, fK0, lK0, nK0, mK0⟩ := Blk.all5 K0
          have BL3 := BL2.below hb
          go_wp2_with fail
          go_roundg (n - (k + 1))
          case measure => omega
          case rel => exact ⟨k + 1, (k : Int), by omega, by omega, by go_num, rfl, by omega, by omega, best_here hst.out HX.out, HB, K0, BL3⟩
        · have hjz : decide ((j : Int) < 0) = false := by simp
          have hjn : (j : Int) < (n : Int) := by omega
          have hj0 : (0 : Int) ≤ (j : Int) := by omega
          obtain ⟨ab2, off2, y, he, hbs2, hy, d0, d1, d2, d3, d4⟩ := lies_at BL.out (j := j) (by have := HN.out; omega)
          injection he with he
          injection he with he1 he2 _
          subst he1 he2
          obtain rfl : y = p := by rw [hp] at hy; exact (Option.some.inj hy).symm
          have HBP := Lib.hid hbp
          clear hp hy hbp d0 d2 d3 d4
          by_cases hq : y.q ≤ x.q
          · have hqz : decide (y.q ≤ x.q) = true := decide_eq_true hq
            have hst := Lib.hid (show bestL f ((scanL f).take (k + 1)) = some x by rw [BN.out, HBP.out, step_up hgd hq])
            clear hgd BB hq
            go_upto_region 9 with (first | (go_at_call 42; with_reducible refine (gd.out _).mono ?_; rintro e w' ⟨rfl, hb⟩; have HB := bl_step (w := w) (by repeat (with_reducible first | exact HB | (refine bl_set ?_ (by omega)) | apply bl_alloc | apply bl_drew | apply bl_drewN | fail)) hb; have hzB := HB.size; have K0 := Blk.on (by first | exact K0 | exact K0 #[] | exact K0 (.cells #[] 0) #[]) (by repeat (with_reducible first | exact K0 | exact K0 _ | exact K0 _ _ | apply Blk.alloc | apply Blk.drew | apply Blk.drewN | apply Blk.set5_0 | apply Blk.set5_1 | apply Blk.set5_2 | apply Blk.set5_3 | apply Blk.set5_4 | (apply Blk.off; (first | assumption | omega | (simp; omega))) | fail)) hb; (try clear cK0_0 cK0_1 cK0_2 cK0_3 cK0_4 fK0 lK0 nK0 mK0); obtain ⟨cK0_0, cK0_1, cK0_2, cK0_3, cK0_4, fK0, lK0, nK0, mK0⟩ := Blk.all5 K0) | fail)
            have BL2 := BL.out.below hb
            have c1w := cb hb c1
            have d1w := cb hb d1
            clear hb BL gd c0 c1 c2 c3 c4 d1
            have r1 := fun s : Wld w' => Wld.cell c1w s
            have r2 := fun s : Wld w' => Wld.cell d1w s
            have qK0_0 := fun s : Wld _ => Wld.cell cK0_0 s; have qK0_1 := fun s : Wld _ => Wld.cell cK0_1 s; have qK0_2 := fun s : Wld _ => Wld.cell cK0_2 s; have qK0_3 := fun s : Wld _ => Wld.cell cK0_3 s; have qK0_4 := fun s : Wld _ => Wld.cell cK0_4 s
            refine wld_lit (by kernel_rfl) (by kernel_rfl) ?_
            repeat (go_big_quiet_step (fail))
            clear r1 r2
            refine wpQuiet_nil ?_; refine Wld.elim ?_; intro w' hb; clear qK0_0 qK0_1 qK0_2 qK0_3 qK0_4; have HB := bl_step (w := w) (by repeat (with_reducible first | exact HB | (refine bl_set ?_ (by omega)) | apply bl_alloc | apply bl_drew | apply bl_drewN | fail)) hb; have hzB := HB.size; have K0 := Blk.on (by first | exact K0 | exact K0 #[] | exact K0 (.cells #[] 0) #[]) (by repeat (with_reducible first | exact K0 | exact K0 _ | exact K0 _ _ | apply Blk.alloc | apply Blk.drew | apply Blk.drewN | apply Blk.set5_0 | apply Blk.set5_1 | apply Blk.set5_2 | apply Blk.set5_3 | apply Blk.set5_4 | (apply Blk.off; (first | assumption | omega | (simp; omega))) | fail)) hb; (try clear cK0_0 cK0_1 cK0_2 cK0_3 cK0_4 fK0 lK0 nK0 mK0); obtain ⟨cK0_0, cK0_1, cK0_2, cK0_3, cK0_4, fK0, lK0, nK0, mK0⟩ := Blk.all5 K0
            have BL3 := BL2.below hb
            go_wp2_with fail
            go_roundg (n - (k + 1))
            case measure => omega
            case rel => exact ⟨k + 1, (k : Int), by omega, by omega, by go_num, rfl, by omega, by omega, best_here hst.out HX.out, HB, K0, BL3⟩
          · have hqz : decide (y.q ≤ x.q) = false := decide_eq_false hq
            have hst := Lib.hid (show bestL f ((scanL f).take (k + 1)) = bestL f ((scanL f).take k) by rw [BN.out, HBP.out, step_keep hq])
            clear hgd hq
            go_upto_region 9 with (first | (go_at_call 42; with_reducible refine (gd.out _).mono ?_; rintro e w' ⟨rfl, hb⟩; have HB := bl_step (w := w) (by repeat (with_reducible first | exact HB | (refine bl_set ?_ (by omega)) | apply bl_alloc | apply bl_drew | apply bl_drewN | fail)) hb; have hzB := HB.size; have K0 := Blk.on (by first | exact K0 | exact K0 #[] | exact K0 (.cells #[] 0) #[]) (by repeat (with_reducible first | exact K0 | exact K0 _ | exact K0 _ _ | apply Blk.alloc | apply Blk.drew | apply Blk.drewN | apply Blk.set5_0 | apply Blk.set5_1 | apply Blk.set5_2 | apply Blk.set5_3 | apply Blk.set5_4 | (apply Blk.off; (first | assumption | omega | (simp; omega))) | fail)) hb; (try clear cK0_0 cK0_1 cK0_2 cK0_3 cK0_4 fK0 lK0 nK0 mK0); obtain ⟨cK0_0, cK0_1, cK0_2, cK0_3, cK0_4, fK0, lK0, nK0, mK0⟩ := Blk.all5 K0) | fail)
            have BL2 := BL.out.below hb
            have c1w := cb hb c1
            have d1w := cb hb d1
            clear hb BL gd c0 c1 c2 c3 c4 d1
            have r1 := fun s : Wld w' => Wld.cell c1w s
            have r2 := fun s : Wld w' => Wld.cell d1w s
            have qK0_0 := fun s : Wld _ => Wld.cell cK0_0 s; have qK0_1 := fun s : Wld _ => Wld.cell cK0_1 s; have qK0_2 := fun s : Wld _ => Wld.cell cK0_2 s; have qK0_3 := fun s : Wld _ => Wld.cell cK0_3 s; have qK0_4 := fun s : Wld _ => Wld.cell cK0_4 s
            refine wld_lit (by kernel_rfl) (by kernel_rfl) ?_
            repeat (go_big_quiet_step (fail))
            clear r1 r2
            refine wpQuiet_nil ?_; refine Wld.elim ?_; intro w' hb; clear qK0_0 qK0_1 qK0_2 qK0_3 qK0_4; have HB := bl_step (w := w) (by repeat (with_reducible first | exact HB | (refine bl_set ?_ (by omega)) | apply bl_alloc | apply bl_drew | apply bl_drewN | fail)) hb; have hzB := HB.size; have K0 := Blk.on (by first | exact K0 | exact K0 #[] | exact K0 (.cells #[] 0) #[]) (by repeat (with_reducible first | exact K0 | exact K0 _ | exact K0 _ _ | apply Blk.alloc | apply Blk.drew | apply Blk.drewN | apply Blk.set5_0 | apply Blk.set5_1 | apply Blk.set5_2 | apply Blk.set5_3 | apply Blk.set5_4 | (apply Blk.off; (first | assumption | omega | (simp; omega))) | fail)) hb; (try clear cK0_0 cK0_1 cK0_2 cK0_3 cK0_4 fK0 lK0 nK0 mK0); obtain ⟨cK0_0, cK0_1, cK0_2, cK0_3, cK0_4, fK0, lK0, nK0, mK0⟩ := Blk.all5 K0
            have BL3 := BL2.below hb
            go_wp2_with fail
            go_roundg (n - (k + 1))
            case measure => omega
            case rel => exact ⟨k + 1, (j : Int), by omega, by omega, by go_num, rfl, by omega, by omega, best_stay hst.out BB.out, HB, K0, BL3⟩
    · obtain rfl : k = n := by omega
      have hall : (scanL f).take k = scanL f := List.take_of_length_le (by have := HN.out; omega)
      rcases BB.out with ⟨rfl, hno⟩ | ⟨j, p, rfl, hj, hp, hbp⟩
      · rw [hall] at hno
        have hv := Lib.hid (act_none (f := f) hno)
        clear hall hno BB
        go_wp2_with fail
        exact bodyPost_ret (v := .tuple #[.agg #[.int .i64 0, .int .i64 0, .int .i64 0, .int .i64 0, .int .i64 0], .int .i64 701]) (by simp [results, Try.results18, go_sem, *]) rfl ⟨by rw [hv.out.1, hv.out.2], (by repeat (with_reducible first | exact Below.refl _ _ | assumption | (refine bl_set ?_ (by omega)) | apply bl_alloc | apply bl_drewN | apply bl_drew | (refine bl_step ?_ (by assumption)) | fail))⟩
      · rw [hall] at hbp
        have hv := Lib.hid (act_some (f := f) hbp)
        have hjz : decide ((j : Int) < 0) = false := by simp
        have hjn : (j : Int) < (k : Int) := by omega
        have hj0 : (0 : Int) ≤ (j : Int) := by omega
        obtain ⟨ab2, off2, y, rfl, hbs2, hy, d0, d1, d2, d3, d4⟩ := lies_at BL.out (j := j) (by have := HN.out; omega)
        obtain rfl : y = p := by rw [hp] at hy; exact (Option.some.inj hy).symm
        clear hall hbp hp hy BB
        go_wp2_with fail
        exact bodyPost_ret (v := .tuple #[.agg #[.int .i64 y.at_, .int .i64 y.q, .int .i64 y.s, .int .i64 y.z, .int .i64 y.m], .int .i64 0]) (by simp [results, Try.results18, go_sem, *]) rfl ⟨by rw [hv.out.1, hv.out.2], (by repeat (with_reducible first | exact Below.refl _ _ | assumption | (refine bl_set ?_ (by omega)) | apply bl_alloc | apply bl_drewN | apply bl_drew | (refine bl_step ?_ (by assumption)) | fail))⟩
end Go.Proofs.Ytimnhdmpfndeaaa.Ch
