/- Layer 8: PlaceRow: the walk. -/
import Derived.Test.YtimnhdmpfndeaaaPra
import Derived.Test.YtimnhdmpfndeaaaEqp
import Derived.Test.YtimnhdmpfndeaaaOpi
namespace Go.Proofs.Ytimnhdmpfndeaaa.Pl
open Go.RowKit Go.Proofs.Ytimnhdmpfndeaaa.Kt Go.Proofs.Ytimnhdmpfndeaaa.Lw Go.Proofs.Ytimnhdmpfndeaaa.St Go.Proofs.Ytimnhdmpfndeaaa.Nm Go.Proofs.Ytimnhdmpfndeaaa.Es Go.Proofs.Ytimnhdmpfndeaaa.By Go.Proofs.Ytimnhdmpfndeaaa.En Go.Proofs.Ytimnhdmpfndeaaa.Jr Go.Proofs.Ytimnhdmpfndeaaa.Im Go.Proofs.Ytimnhdmpfndeaaa.Sl Go.Proofs.Ytimnhdmpfndeaaa.Gr Go.Proofs.Ytimnhdmpfndeaaa.Ops Go.Proofs.Ytimnhdmpfndeaaa.Ch Go.Proofs.Ytimnhdmpfndeaaa.Fl Go.Proofs.Ytimnhdmpfndeaaa.Oi
set_option linter.unusedVariables false
set_option linter.unusedSimpArgs false
attribute [local irreducible] gotB goodB Cr.crcB nQ nS nZ nM placeB wholeB
attribute [local go_sem high] eqRec eqPlc
theorem way_new4 {wr W wq : World} {cs : Array Value} {t : TypeId} (h : Below wr.heap.size wr W) (hb : Below W.heap.size W wq) : ∃ g : Nat, Value.pointer (some ⟨wq.heap.size, 0, none⟩) = .pointer (some ⟨g, 0, none⟩) ∧ Value.int .i64 0 = .int .i64 0 ∧ wr.heap.size ≤ g ∧
    Aside (Blk (wq.alloc (.cells cs t)) g cs t) ∧ Aside (Below wr.heap.size wr (wq.alloc (.cells cs t))) :=
  ⟨_, rfl, rfl, Nat.le_trans h.size hb.size, Blk.new _ _ _, bl_alloc (bl_step h hb) _⟩
theorem way_old4 {wr W wq : World} {z0 z1 z2 z3 v0 v1 v2 v3 : Value} {t : TypeId} (h : Below wr.heap.size wr W) (hb : Below (W.alloc (.cells #[z0, z1, z2, z3] t)).drew.heap.size (W.alloc (.cells #[z0, z1, z2, z3] t)).drew wq) :
    ∃ g : Nat, Value.pointer (some ⟨W.heap.size, 0, none⟩) = .pointer (some ⟨g, 0, none⟩) ∧ Value.int .i64 0 = .int .i64 0 ∧ wr.heap.size ≤ g ∧
    Aside (Blk ((((wq.setCell ⟨W.heap.size, 0, none⟩ v0).setCell ⟨W.heap.size, 1, none⟩ v1).setCell ⟨W.heap.size, 2, none⟩ v2).setCell ⟨W.heap.size, 3, none⟩ v3) g #[v0, v1, v2, v3] t) ∧
    Aside (Below wr.heap.size wr ((((wq.setCell ⟨W.heap.size, 0, none⟩ v0).setCell ⟨W.heap.size, 1, none⟩ v1).setCell ⟨W.heap.size, 2, none⟩ v2).setCell ⟨W.heap.size, 3, none⟩ v3)) :=
  ⟨_, rfl, rfl, h.size, Blk.set4_3 (Blk.set4_2 (Blk.set4_1 (Blk.set4_0 (Blk.below (Blk.new W _ t).drew hb) _) _) _) _,
    bl_set (bl_set (bl_set (bl_set (bl_step (bl_drew (bl_alloc h _)) hb) h.size) h.size) h.size) h.size⟩
theorem lit2_768 (lit : ByteArray) (h : lit.size = 768) : ((lit.size : Int) == 768) = true := by simp; omega
set_option maxRecDepth 100000 in
set_option maxHeartbeats 25600000 in
theorem prow_w (A : Option Addr) (n c : Nat) (xs : List Int) (w : World) (R : Lies encI 1 w A xs) (hn : xs.length = n) (hn1 : n ≤ 9223372036854775807) :
    Calls Try.prog 7 #[.slice A n c] w fun e w' => e = .returned (.bool true) ∧ Below w.heap.size w w' := by
  have HB := Below.refl w.heap.size w
  have bl := Lib.hid (fun W : World => blank_c W)
  have hd := Lib.hid (fun W : World => held_c W)
  have hz2 := lit2_size
  have RB := Lib.hid row_blank
  have HR := Lib.hid R
  have HN := Lib.hid hn
  clear R hn
  generalize fullB 768 = F0 at *
  generalize lit2 = F2 at *
  go_enter Try.func7, Try.ntmps7
  go_upto_region 5 with (first | (go_at_call 17; with_reducible refine (awake_c _).mono ?_; rintro e w' ⟨rfl, hb⟩; have HB := bl_step (w := w) (by repeat (with_reducible first | exact HB | (refine bl_set ?_ (by omega)) | apply bl_alloc | apply bl_drew | apply bl_drewN | fail)) hb; have hzB := HB.size) | (go_at_call 24; with_reducible refine (bl.out _).mono ?_; rintro e w' ⟨rfl, hb⟩; have HB := bl_step (w := w) (by repeat (with_reducible first | exact HB | (refine bl_set ?_ (by omega)) | apply bl_alloc | apply bl_drew | apply bl_drewN | fail)) hb; have hzB := HB.size) | fail)
  go_loopg [3, 4] 30 (fun gg s3 s4 wr => ∃ (i : Nat) (f : ByteArray), i ≤ n ∧ i ≤ 30 ∧ 30 - i ≤ gg ∧ s4 = .int .i64 i ∧ s3 = .string f ∧ Aside (RowOk f i) ∧ Aside (Below w.heap.size w wr))
  case atStart => exact ⟨0, F0, by omega, by omega, by omega, rfl, rfl, RB.out, HB⟩
  case round =>
    clear HB RB
    obtain ⟨i, f, hin, hi30, hg, rfl, rfl, RO, BW⟩ := hrel
    have HB := BW.out
    have hzB := HB.size
    clear BW
    by_cases hlt : i < n
    · have hltz : decide ((i : Int) < (n : Int)) = true := by simp; omega
      by_cases h30 : i < 30
      · have h30z : decide ((i : Int) < 30) = true := by simp; omega
        have hi0 : (0 : Int) ≤ (i : Int) := by omega
        have hltn : (i : Int) < (n : Int) := by omega
        obtain ⟨b, off, hAe, hbs, hcs⟩ := (HR.out.below HB).some_ (by intro h; have := HN.out; rw [h] at this; simp at this; omega)
        obtain ⟨x, hxi⟩ : ∃ x, xs[i]? = some x := ⟨_, List.getElem?_eq_getElem (by have := HN.out; omega)⟩
        have hcx : wr.cell? ⟨b, off + i, none⟩ = some (.int .i64 x) := by have := hcs i x hxi 0 _ rfl; simpa using this
        subst hAe
        have hs1 := Bt.and1 x
        obtain ⟨zz, hzz, hz288⟩ := umod_nat x 288 (by decide) (by decide)
        have hzz3 : IntKind.i64.wrap (1 + IntKind.i64.wrap (Int.tmod (IntKind.u64.wrap x) 288)) = 1 + (zz : Int) := by
          have e : IntKind.i64.wrap (Int.tmod (IntKind.u64.wrap x) 288) = (zz : Int) := by
            have h' := hzz
            simp only [IntKind.wrap_i64]
            unfold wrap64 at h'
            exact h'
          rw [e]
          simp only [IntKind.wrap_i64]
          omega
        have hsr : rngB (x % 2) 0 1 = true := by simp [rngB]; omega
        have hzr : rngB (1 + (zz : Int)) 1 288 = true := by simp [rngB]; omega
        obtain ⟨hnx, hre, m, hrv, hmay, a, hact, hrow⟩ := row_next RO.out (by omega) hsr hzr
        have hfz := RO.out.1.1
        have nx := Lib.hid (fun W : World => next_c f W (by omega))
        rw [hnx] at nx
        have rc := Lib.hid (fun W : World => rrec_c f (x % 2) (1 + (zz : Int)) W (by omega))
        rw [hre, hrv] at rc
        have ap := Lib.hid (fun W : World => append_yes f ((i : Int) + 1) (x % 2) (1 + (zz : Int)) m W hfz hmay)
        unfold appY at ap
        have ML := Lib.hid (app_may f ((i : Int) + 1) (x % 2) (1 + (zz : Int)) m)
        obtain ⟨hl1, hl2⟩ := app_len f ((i : Int) + 1) (x % 2) (1 + (zz : Int)) m
        obtain ⟨p, hp⟩ : ∃ p, (appL f ((i : Int) + 1) (x % 2) (1 + (zz : Int)) m).length = p := ⟨_, rfl⟩
        rw [hp] at ap hl1 hl2
        have HP := Lib.hid hp
        have HRW := Lib.hid hrow
        have aY := Lib.hid (fun W : World => ract_of hrow.1.1 hact W)
        have HFZ := Lib.hid hfz
        clear hp hnx hre hrv hmay hact hrow hsr hzr hxi hcs hfz
        generalize appL f ((i : Int) + 1) (x % 2) (1 + (zz : Int)) m = OL at *
        generalize x % 2 = s at *
        go_upto_region 7 with fail
        have HC : wr.cell? ⟨b, off + i, none⟩ = some (.int .i64 x) := hcx
        go_cut [5, 6] (fun v5 v6 wc => ∃ g : Nat, v5 = .pointer (some ⟨g, 0, none⟩) ∧ v6 = .int .i64 0 ∧ wr.heap.size ≤ g ∧ Aside (Blk wc g #[.int .i64 ((i : Int) + 1), .int .i64 s, .int .i64 (1 + (zz : Int)), .int .i64 m] 23) ∧ Aside (Below wr.heap.size wr wc))
        case first =>
          go_region_held3 (fun W => W.cell? ⟨b, off + i, none⟩ = some (.int .i64 x) ∧ Below wr.heap.size wr W) (first | (refine k1 HC ?_; (repeat (with_reducible first | exact Below.refl _ _ | (apply kz1; assumption) | apply bl_alloc | apply bl_drew | apply bl_drewN | (refine bl_set ?_ (by omega)) | (refine bl_step ?_ (by assumption)) | fail)); done) | fail) (first | (go_at_call 19; (try rw [hzz3]); with_reducible refine (rc.out _).mono ?_; rintro e wq ⟨rfl, hb⟩; obtain ⟨hcc, hff, hll, hnn, hnm⟩ := keep hb; have hzq : wr.heap.size ≤ wq.heap.size := Nat.le_trans (by simp) hb.size) | fail)
          all_goals (go_wp2_with fail; go_meet)
          · with_reducible refine way_new4 ?_ hb
            exact bl_drew (Below.refl _ _)
          · with_reducible refine way_old4 ?_ hb
            exact Below.refl _ _
        case rest =>
          obtain ⟨g, rfl, rfl, hgr, BK1, BB⟩ := hcut
          have HB1 := bl_step HB BB.out
          have K1 := BK1.out
          clear BK1 BB rc hs1 hzz hzz3 HC hcx
          obtain ⟨cK1_0, cK1_1, cK1_2, cK1_3, fK1, lK1, nK1, mK1⟩ := Blk.all4 K1
          have HB := HB1
          clear HB1
          go_upto_region 9 with (first | (go_at_call 10; with_reducible refine (nx.out _).mono ?_; rintro e w' ⟨rfl, hb⟩; have HB := bl_step (w := w) (by repeat (with_reducible first | exact HB | (refine bl_set ?_ (by omega)) | apply bl_alloc | apply bl_drew | apply bl_drewN | fail)) hb; have hzB := HB.size; have K1 := Blk.on (by first | exact K1 | exact K1 #[] | exact K1 (.cells #[] 0) #[]) (by repeat (with_reducible first | exact K1 | exact K1 _ | exact K1 _ _ | apply Blk.alloc | apply Blk.drew | apply Blk.drewN | apply Blk.set4_0 | apply Blk.set4_1 | apply Blk.set4_2 | apply Blk.set4_3 | (apply Blk.off; (first | assumption | omega | (simp; omega))) | fail)) hb; (try clear cK1_0 cK1_1 cK1_2 cK1_3 fK1 lK1 nK1 mK1); obtain ⟨cK1_0, cK1_1, cK1_2, cK1_3, fK1, lK1, nK1, mK1⟩ := Blk.all4 K1) | fail)
          clear hb hzB
          go_upto_region 13 with (first | (go_at_call 12; (with_reducible refine (ap.out _).mono ?_); rintro e w3 ⟨A4, c4, rfl, hown, hb⟩; have HB := bl_step (w := w) (by repeat (with_reducible first | exact HB | (refine bl_set ?_ (by omega)) | apply bl_alloc | apply bl_drew | apply bl_drewN | fail)) hb; have hzB := HB.size; have K1 := Blk.on (by first | exact K1 | exact K1 #[] | exact K1 (.cells #[] 0) #[]) (by repeat (with_reducible first | exact K1 | exact K1 _ | exact K1 _ _ | apply Blk.alloc | apply Blk.drew | apply Blk.drewN | apply Blk.set4_0 | apply Blk.set4_1 | apply Blk.set4_2 | apply Blk.set4_3 | (apply Blk.off; (first | assumption | omega | (simp; omega))) | fail)) hb; (try clear cK1_0 cK1_1 cK1_2 cK1_3 fK1 lK1 nK1 mK1); obtain ⟨cK1_0, cK1_1, cK1_2, cK1_3, fK1, lK1, nK1, mK1⟩ := Blk.all4 K1) | (go_at_call 14; with_reducible refine (enum_c _ _).mono ?_; rintro e w' ⟨rfl, rfl⟩) | fail)
          have R0 := row_of (lies_own encOp_len hown HP.out) (by rw [HP.out]; omega) ML.out
          have BK1 : Aside (Blk w3 g #[.int .i64 ((i : Int) + 1), .int .i64 s, .int .i64 (1 + (zz : Int)), .int .i64 m] 23) := K1
          clear hown hb K1 cK1_0 cK1_1 cK1_2 cK1_3 fK1 lK1 nK1 mK1 ap nx
          go_loopg [3, 11] p (fun gg2 s3 s11 wr2 => ∃ j : Nat, j ≤ p ∧ p - j ≤ gg2 ∧ s11 = .int .i64 j ∧ s3 = .string (allB f (OL.take j)) ∧ Aside (Below w.heap.size w wr2) ∧ Aside (Blk wr2 g #[.int .i64 ((i : Int) + 1), .int .i64 s, .int .i64 (1 + (zz : Int)), .int .i64 m] 23) ∧ Aside (Row wr2 A4 OL))
          case atStart => exact ⟨0, by omega, by omega, rfl, rfl, HB, BK1, R0⟩
          case round =>
            clear HB BK1 R0 hzB
            obtain ⟨j, hj, hg2, rfl, rfl, BW, BA, BR⟩ := hrel
            have HB := BW.out
            have K1 := BA.out
            obtain ⟨cK1_0, cK1_1, cK1_2, cK1_3, fK1, lK1, nK1, mK1⟩ := Blk.all4 K1
            clear BW BA
            by_cases hlj : j < p
            · obtain ⟨b5, off5, o, rfl, hbs5, ho, hok, c0, c1, c2⟩ := BR.out.at_ (j := j) (by rw [HP.out]; exact hlj)
              have hmx := ML.out o (List.mem_of_getElem? ho)
              have hsz := all_size HFZ.out (ML.out.take j)
              have NX := Lib.hid (all_next (f := f) ho)
              have dd := Lib.hid (fun W : World => rdo_c (allB f (OL.take j)) o W (by omega) hok)
              rw [do_yes hsz hmx.1] at dd
              have hj3 : (j : Int) < (p : Int) := by omega
              have hj0 : (0 : Int) ≤ (j : Int) := by omega
              clear ho hok hmx hsz
              go_wp2_with (first | (go_at_call 21; (with_reducible refine (dd.out _).mono ?_); rintro e w5 ⟨rfl, hb⟩; have HB := bl_step (w := w) (by repeat (with_reducible first | exact HB | (refine bl_set ?_ (by omega)) | apply bl_alloc | apply bl_drew | apply bl_drewN | fail)) hb; have hzB := HB.size; have K1 := Blk.on (by first | exact K1 | exact K1 #[] | exact K1 (.cells #[] 0) #[]) (by repeat (with_reducible first | exact K1 | exact K1 _ | exact K1 _ _ | apply Blk.alloc | apply Blk.drew | apply Blk.drewN | apply Blk.set4_0 | apply Blk.set4_1 | apply Blk.set4_2 | apply Blk.set4_3 | (apply Blk.off; (first | assumption | omega | (simp; omega))) | fail)) hb; (try clear cK1_0 cK1_1 cK1_2 cK1_3 fK1 lK1 nK1 mK1); obtain ⟨cK1_0, cK1_1, cK1_2, cK1_3, fK1, lK1, nK1, mK1⟩ := Blk.all4 K1) | fail)
              go_roundg (p - (j + 1))
              case measure => omega
              case rel => exact ⟨j + 1, by omega, by omega, by go_num, (by rw [NX.out]), HB, K1, BR.out.below hb⟩
            · obtain rfl : j = p := by omega
              have he : allB f (OL.take j) = allB f OL := by rw [List.take_of_length_le (by rw [HP.out]; omega)]
              rw [he]
              have hj3 : decide ((j : Int) < (j : Int)) = false := by simp
              clear he BR
              generalize allB f OL = Y at *
              go_wp2_with (first | (go_at_call 18; (with_reducible refine (aY.out _).mono ?_); rintro e w6 ⟨rfl, hb⟩; have HB := bl_step (w := w) (by repeat (with_reducible first | exact HB | (refine bl_set ?_ (by omega)) | apply bl_alloc | apply bl_drew | apply bl_drewN | fail)) hb; have hzB := HB.size; have K1 := Blk.on (by first | exact K1 | exact K1 #[] | exact K1 (.cells #[] 0) #[]) (by repeat (with_reducible first | exact K1 | exact K1 _ | exact K1 _ _ | apply Blk.alloc | apply Blk.drew | apply Blk.drewN | apply Blk.set4_0 | apply Blk.set4_1 | apply Blk.set4_2 | apply Blk.set4_3 | (apply Blk.off; (first | assumption | omega | (simp; omega))) | fail)) hb; (try clear cK1_0 cK1_1 cK1_2 cK1_3 fK1 lK1 nK1 mK1); obtain ⟨cK1_0, cK1_1, cK1_2, cK1_3, fK1, lK1, nK1, mK1⟩ := Blk.all4 K1) | fail)
              go_roundg (30 - (i + 1))
              case measure => omega
              case rel => exact ⟨i + 1, Y, by omega, by omega, by omega, by go_num, rfl, HRW.out, bl_alloc HB _⟩
      · obtain rfl : i = 30 := by omega
        have tt := Lib.hid (fun W : World => tame_t RO.out.1 W)
        go_wp2_with (first | (go_at_call 26; with_reducible refine (hd.out _).mono ?_; rintro e w' ⟨rfl, hb⟩; have HB := bl_step (w := w) (by repeat (with_reducible first | exact HB | (refine bl_set ?_ (by omega)) | apply bl_alloc | apply bl_drew | apply bl_drewN | fail)) hb; have hzB := HB.size) | (go_at_call 20; with_reducible refine (tt.out _).mono ?_; rintro e w' ⟨rfl, hb⟩; have HB := bl_step (w := w) (by repeat (with_reducible first | exact HB | (refine bl_set ?_ (by omega)) | apply bl_alloc | apply bl_drew | apply bl_drewN | fail)) hb; have hzB := HB.size) | fail)
        go_ret
        exact ⟨rfl, HB⟩
    · obtain rfl : i = n := by omega
      have hltz : decide ((i : Int) < (i : Int)) = false := by simp
      have tt := Lib.hid (fun W : World => tame_t RO.out.1 W)
      go_wp2_with (first | (go_at_call 26; with_reducible refine (hd.out _).mono ?_; rintro e w' ⟨rfl, hb⟩; have HB := bl_step (w := w) (by repeat (with_reducible first | exact HB | (refine bl_set ?_ (by omega)) | apply bl_alloc | apply bl_drew | apply bl_drewN | fail)) hb; have hzB := HB.size) | (go_at_call 20; with_reducible refine (tt.out _).mono ?_; rintro e w' ⟨rfl, hb⟩; have HB := bl_step (w := w) (by repeat (with_reducible first | exact HB | (refine bl_set ?_ (by omega)) | apply bl_alloc | apply bl_drew | apply bl_drewN | fail)) hb; have hzB := HB.size) | fail)
      go_ret
      exact ⟨rfl, HB⟩
end Go.Proofs.Ytimnhdmpfndeaaa.Pl
