/- Layer 8: is the law awake. -/
import Derived.Test.YtimnhdmpfndeaaaPli
import Derived.Test.YtimnhdmpfndeaaaPle
import Derived.Test.YtimnhdmpfndeaaaWld
namespace Go.Proofs.Ytimnhdmpfndeaaa.Pl
open Go.RowKit Go.Proofs.Ytimnhdmpfndeaaa.Kt Go.Proofs.Ytimnhdmpfndeaaa.Lw Go.Proofs.Ytimnhdmpfndeaaa.St Go.Proofs.Ytimnhdmpfndeaaa.Nm Go.Proofs.Ytimnhdmpfndeaaa.By Go.Proofs.Ytimnhdmpfndeaaa.En Go.Proofs.Ytimnhdmpfndeaaa.Jr Go.Proofs.Ytimnhdmpfndeaaa.Im Go.Proofs.Ytimnhdmpfndeaaa.Sl Go.Proofs.Ytimnhdmpfndeaaa.Gr Go.Proofs.Ytimnhdmpfndeaaa.Ops Go.Proofs.Ytimnhdmpfndeaaa.Ch Go.Proofs.Ytimnhdmpfndeaaa.Fl
set_option linter.unusedVariables false
set_option linter.unusedSimpArgs false
def abab8 : ByteArray := ⟨#[97, 98, 97, 98, 97, 98, 97, 98]⟩
def sum8 : Int := Cr.crcB abab8
theorem lit2_img : imgB lit2 0 8 = abab8 := by decide +kernel
theorem lit2_next : nextV lit2 = #[.int .i64 2, .int .i64 0] := by
  rw [next_one lit2_size (by rw [lit2_max]; decide), lit2_max]
  rfl
theorem none_next : nextV ⟨#[]⟩ = #[.int .i64 0, .int .i64 800] := next_form (by decide)
theorem rec_lit2 : recV lit2 0 8 = #[.int .i64 2, .int .i64 0, .int .i64 8, .int .i64 sum8] ∧ recE lit2 0 8 = 0 := by
  have h1 : recOk lit2 0 8 = true := by simp [recOk, lit2_size]; decide
  constructor
  · unfold recV
    rw [h1, lit2_max, lit2_img]
    rfl
  · unfold recE
    rw [h1, lit2_max]
    rfl
theorem sum8_may : recMay 2 0 8 sum8 = true := by decide +kernel
theorem app_lit2 : appL lit2 2 0 8 sum8 = wordsN ((24 : Nat) : Int) (wholeB 2 0 8 sum8) 6 := by
  have e : spotN lit2 = 24 := by simp only [spotN, lit2_home, lit2_free]; rfl
  have e2 : headL lit2 = [] := by simp only [headL, lit2_home, lit2_free]
  unfold appL
  rw [e, e2, List.nil_append]
  unfold wordsL
  rw [whole_size]
  rfl
attribute [local irreducible] gotB goodB Cr.crcB nQ nS nZ nM placeB wholeB lit1 lit2 entN sumN sum8
set_option maxRecDepth 100000 in
set_option maxHeartbeats 12800000 in
theorem awake_c (w : World) : Calls Try.prog 17 #[] w fun e w' => e = .returned (.bool true) ∧ Below w.heap.size w w' := by
  have HB := Below.refl w.heap.size w
  have hd := Lib.hid (fun W : World => held_c W)
  have nx := Lib.hid (fun W : World => next_c lit2 W (by rw [lit2_size]; decide))
  rw [lit2_next] at nx
  have n0 := Lib.hid (fun W : World => next_c ⟨#[]⟩ W (by decide))
  rw [none_next] at n0
  have rc := Lib.hid (fun W : World => rrec_c lit2 0 8 W (by rw [lit2_size]; decide))
  rw [rec_lit2.1, rec_lit2.2] at rc
  have l6 : (appL lit2 2 0 8 sum8).length = 6 := by rw [app_lit2, wordsN_len]
  obtain ⟨x0, hx0, hx1, hx2⟩ : ∃ x, (appL lit2 2 0 8 sum8)[0]? = some x ∧ x.1 = false ∧ x.2.1 = 24 := ⟨_, by rw [app_lit2]; rfl, rfl, rfl⟩
  have ap : Hid (∀ W : World, Calls Try.prog 12 #[.string lit2, .agg #[.int .i64 2, .int .i64 0, .int .i64 8, .int .i64 sum8]] W fun e w' => ∃ A c, e = .returned (.tuple #[.slice A 6 c, .int .i64 0]) ∧ Lies encOp 3 w' A (appL lit2 2 0 8 sum8) ∧ Below W.heap.size W w') := Lib.hid (fun W => by
    refine (append_yes lit2 2 0 8 sum8 W lit2_size sum8_may).mono ?_
    rintro e w' ⟨A, c, h1, h2, h3⟩
    exact ⟨A, c, by rw [h1, l6], lies_own encOp_len h2 rfl, h3⟩)
  have a0 := Lib.hid (fun W : World => append_no lit2 0 0 0 0 W (by rw [lit2_size]; decide) (by rintro ⟨_, h⟩; exact absurd h (by decide)))
  have LX := Lib.hid hx0
  have LL := Lib.hid l6
  clear hx0 l6
  generalize (appL lit2 2 0 8 sum8) = OL at *
  generalize lit2 = F2 at *
  generalize sum8 = S8 at *
  go_enter Try.func17, Try.ntmps17
  go_upto_region 3 with (first | (go_at_call 26; with_reducible refine (hd.out _).mono ?_; rintro e w' ⟨rfl, hb⟩; have HB := bl_step (w := w) (by repeat (with_reducible first | exact HB | (refine bl_set ?_ (by omega)) | apply bl_alloc | apply bl_drew | apply bl_drewN | fail)) hb; have hzB := HB.size) | (go_at_call 10; with_reducible refine (nx.out _).mono ?_; rintro e w' ⟨rfl, hb⟩; have HB := bl_step (w := w) (by repeat (with_reducible first | exact HB | (refine bl_set ?_ (by omega)) | apply bl_alloc | apply bl_drew | apply bl_drewN | fail)) hb; have hzB := HB.size) | (go_at_call 19; with_reducible refine (rc.out _).mono ?_; rintro e w' ⟨rfl, hb⟩; have HB := bl_step (w := w) (by repeat (with_reducible first | exact HB | (refine bl_set ?_ (by omega)) | apply bl_alloc | apply bl_drew | apply bl_drewN | fail)) hb; have hzB := HB.size; have K1 := fun cs => Blk.new w' cs 23) | fail)
  have HB1 := bl_alloc HB (.cells #[.int .i64 2, .int .i64 0, .int .i64 8, .int .i64 S8] 23)
  obtain ⟨d0, d1, d2, d3, _⟩ := Blk.all4 (K1 #[.int .i64 2, .int .i64 0, .int .i64 8, .int .i64 S8])
  clear HB K1 hb hzB
  generalize w'.alloc (.cells #[.int .i64 2, .int .i64 0, .int .i64 8, .int .i64 S8] 23) = w1 at *
  generalize w'.heap.size = g at *
  have HC : w1.cell? ⟨g, 0, none⟩ = some (.int .i64 2) ∧ w1.cell? ⟨g, 1, none⟩ = some (.int .i64 0) ∧ w1.cell? ⟨g, 2, none⟩ = some (.int .i64 8) ∧ w1.cell? ⟨g, 3, none⟩ = some (.int .i64 S8) := ⟨d0, d1, d2, d3⟩
  clear d0 d1 d2 d3
  go_cut [5, 6] (fun v5 v6 wc => ∃ A c, v5 = .slice A 6 c ∧ v6 = .int .i64 0 ∧ Aside (Lies encOp 3 wc A OL) ∧ Aside (Below w.heap.size w wc))
  case first =>
    go_region_held3 (fun W => W.cell? ⟨g, 0, none⟩ = some (.int .i64 2) ∧ W.cell? ⟨g, 1, none⟩ = some (.int .i64 0) ∧ W.cell? ⟨g, 2, none⟩ = some (.int .i64 8) ∧ W.cell? ⟨g, 3, none⟩ = some (.int .i64 S8) ∧ Below w1.heap.size w1 W) (first | (refine k4 HC ?_; (repeat (with_reducible first | exact Below.refl _ _ | (apply kz4; assumption) | apply bl_alloc | apply bl_drew | apply bl_drewN | (refine bl_setn ?_ (by apply kz4; assumption)) | (refine bl_step ?_ (by assumption)) | fail)); done) | fail) (first | (go_at_call 26; refine (hd.out _).mono ?_; rintro e wq ⟨rfl, hb⟩) | (go_at_call 12; refine (ap.out _).mono ?_; rintro e wq ⟨A, c, rfl, hL, hb⟩) | fail)
    all_goals (go_wp2_with fail; go_meet; rename_i hh; exact ⟨_, _, rfl, rfl, hL, bl_step HB1 hh.2.2.2.2⟩)
  case rest =>
    obtain ⟨A, c, rfl, rfl, BL, BW⟩ := hcut
    clear HB1 HC
    obtain ⟨b, off, rfl, hbs, hcs⟩ := BL.out.some_ (by intro h; have := LX.out; rw [h] at this; simp at this)
    have q0 := hcs 0 _ LX.out 0 _ rfl
    have q1 := hcs 0 _ LX.out 1 _ rfl
    rw [hx1] at q0
    rw [hx2] at q1
    simp only [Nat.zero_mul, Nat.add_zero] at q0 q1
    clear hcs BL
    go_upto_region 6 with (first | (go_at_call 10; (with_reducible refine (n0.out _).mono ?_); rintro e w2 ⟨rfl, h2⟩) | (go_at_call 26; (with_reducible refine (hd.out _).mono ?_); rintro e w3 ⟨rfl, h3⟩) | (go_at_call 12; (with_reducible refine (a0.out _).mono ?_); rintro e w4 ⟨rfl, h4⟩) | fail)
    have BB := bl_step (bl_step h2 h3) h4
    have HB := bl_step BW.out BB
    have p0 := cb BB q0
    have p1 := cb BB q1
    clear q0 q1 h2 h3 h4 BB BW
    go_wp2_with (first | (go_at_call 14; with_reducible refine (enum_c _ _).mono ?_; rintro e w' ⟨rfl, rfl⟩) | fail)
    go_ret
    exact ⟨rfl, HB⟩
end Go.Proofs.Ytimnhdmpfndeaaa.Pl
