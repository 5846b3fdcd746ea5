/- Layer 4: a record's bytes by the references. -/
import Derived.Test.YtimnhdmpfndeaaaEnb
import Derived.Test.YtimnhdmpfndeaaaGro
namespace Go.Proofs.Ytimnhdmpfndeaaa.En
open Go.RowKit Go.Proofs.Ytimnhdmpfndeaaa.Kt Go.Proofs.Ytimnhdmpfndeaaa.Lw Go.Proofs.Ytimnhdmpfndeaaa.St Go.Proofs.Ytimnhdmpfndeaaa.Nm Go.Proofs.Ytimnhdmpfndeaaa.By Go.Proofs.Ytimnhdmpfndeaaa.Gr
set_option linter.unusedVariables false
set_option linter.unusedSimpArgs false
theorem low_two (x : Int) (h0 : 0 ≤ x) (h1 : x < 256) : lowB x 1 ++ lowB 0 1 = lowB x 2 := by
  apply ext_data
  have : x / 256 % 256 = 0 := by omega
  simp [lowB, lowL, strOfNums, List.range_succ, this]
def preL (s : ByteArray) (n : Nat) : List Int := (List.range n).map (byt s)
theorem pre_len (s : ByteArray) (n : Nat) : (preL s n).length = n := by simp [preL]
theorem pre_at (s : ByteArray) {n j : Nat} (h : j < n) : (preL s n)[j]? = some (byt s j) := by simp [preL, h]
theorem pre_succ (s : ByteArray) (n : Nat) : preL s (n + 1) = preL s n ++ [byt s n] := by simp [preL, List.range_succ]
theorem byt_left (a b : ByteArray) {j : Nat} (h : j < a.size) : byt (a ++ b) j = byt a j := by
  have hj : j < a.data.toList.length := by simpa using h
  unfold byt
  simp only [ByteArray.data_append, Array.toList_append, List.getD_eq_getElem?_getD]
  rw [List.getElem?_append_left hj]
theorem byt_right (a b : ByteArray) (j : Nat) : byt (a ++ b) (a.size + j) = byt b j := by
  have hj : a.data.toList.length = a.size := by simp
  unfold byt
  simp only [ByteArray.data_append, Array.toList_append, List.getD_eq_getElem?_getD]
  rw [List.getElem?_append_right (by omega), hj, Nat.add_sub_cancel_left]
theorem whole_next (q s z m : Int) {k : Nat} (h : k < 12) : byt (wholeB q s z m) (12 + k) = 255 - byt (wholeB q s z m) k := by
  have hz := half_size q s z m
  have h1 := byt_left (halfB q s z m) (compB (halfB q s z m)) (j := k) (by omega)
  have h2 := byt_right (halfB q s z m) (compB (halfB q s z m)) k
  have h3 := byt_comp (halfB q s z m) (j := k) (by omega)
  rw [hz] at h2
  unfold wholeB
  rw [h1, h2, h3]
theorem whole_first (q s z m : Int) {k : Nat} (h : k < 12) : byt (halfB q s z m) k = byt (wholeB q s z m) k := by
  have hz := half_size q s z m
  unfold wholeB
  rw [byt_left _ _ (by omega)]
theorem brow_bytes (W : World) (s : ByteArray) (base : Nat) (cap : Nat) (hc : s.size ≤ cap) (hb : base ≤ W.heap.size) :
    BRow ((W.alloc (.cells (bytesRow s cap) 5 ((bytesRow s cap).size, (bytesRow s cap).size + 1))).drew) base W.heap.size s.size cap (preL s s.size) := by
  have hz : (bytesRow s cap).size = cap := by
    simp [bytesRow]
    omega
  refine ⟨hb, by simp, pre_len _ _, hc, fun j hj => ⟨?_, ?_⟩, fun j x hx => ?_⟩
  · show ∃ v, (W.alloc _).cell? _ = some v
    rw [World.cell?_alloc_mark]
    exact ⟨_, Array.getElem?_eq_getElem (by omega)⟩
  · show (W.alloc _).frozen? _ = false
    rw [World.frozen?_alloc_mark]
    simp
    omega
  · have hj : j < s.size := by
      have := (List.getElem?_eq_some_iff.1 hx).1
      rwa [pre_len] at this
    rw [pre_at s hj] at hx
    obtain rfl := Option.some.inj hx
    exact bytes_cell W s cap j _ hj
set_option maxRecDepth 100000 in
set_option maxHeartbeats 3200000 in
theorem rput_c (q s z m : Int) (w : World) : Calls Try.prog 25 #[.agg #[.int .i64 q, .int .i64 s, .int .i64 z, .int .i64 m]] w fun e w' => e = .returned (.tuple #[.string (putB q s z m), .int .i64 (putE q s z m)]) ∧ Below w.heap.size w w' := by
  have HB := Below.refl w.heap.size w
  have K0 := Blk.new w #[.int .i64 q, .int .i64 s, .int .i64 z, .int .i64 m] 23
  have mm := Lib.hid (fun W : World => rrecMay_c q s z m W)
  cases hm : recMay q s z m
  · rw [hm] at mm
    have hv : putB q s z m = ⟨#[]⟩ ∧ putE q s z m = 400 := by simp [putB, putE, hm]
    rw [hv.1, hv.2]
    clear hm hv
    go_enter Try.func25, Try.ntmps25
    go_wp2_with (first | (go_at_call 50; with_reducible refine (mm.out _).mono ?_; rintro e w' ⟨rfl, hb⟩; have HB := bl_step (w := w) (by repeat (with_reducible first | exact HB | (refine bl_set ?_ (by omega)) | apply bl_alloc | apply bl_drew | apply bl_drewN | fail)) hb; have hzB := HB.size; have K0 := Blk.on (by first | exact K0 | exact K0 #[] | exact K0 (.cells #[] 0) #[]) (by repeat (with_reducible first | exact K0 | exact K0 _ | exact K0 _ _ | apply Blk.alloc | apply Blk.drew | apply Blk.drewN | apply Blk.set4_0 | apply Blk.set4_1 | apply Blk.set4_2 | apply Blk.set4_3 | (apply Blk.off; (first | assumption | omega | (simp; omega))) | fail)) hb; (try clear cK0_0 cK0_1 cK0_2 cK0_3 fK0 lK0 nK0 mK0); obtain ⟨cK0_0, cK0_1, cK0_2, cK0_3, fK0, lK0, nK0, mK0⟩ := Blk.all4 K0) | fail)
    go_ret2
    exact ⟨rfl, (by repeat (with_reducible first | exact Below.refl _ _ | assumption | (refine bl_set ?_ (by omega)) | apply bl_alloc | apply bl_drewN | apply bl_drew | (refine bl_step ?_ (by assumption)) | fail))⟩
  · have hs : 0 ≤ s ∧ s < 256 := by
      simp [recMay, rngB] at hm
      omega
    rw [hm] at mm
    have hv : putB q s z m = wholeB q s z m ∧ putE q s z m = 0 := by simp [putB, putE, hm]
    rw [hv.1, hv.2]
    clear hm hv
    obtain ⟨i0, hi, hz0, hz1, hz2⟩ := info_parts info5
    have z1 := lowB_size q 4
    have z2 := lowB_size s 1
    have z0 := lowB_size 0 1
    have z3 := lowB_size z 2
    have z4 := lowB_size m 4
    have l1 := Lib.hid (fun W : World => rlow_c q 4 W (by decide) (by decide))
    have l2 := Lib.hid (fun W : World => rlow_c s 1 W (by decide) (by decide))
    have l0 := Lib.hid (fun W : World => rlow_c 0 1 W (by decide) (by decide))
    have l3 := Lib.hid (fun W : World => rlow_c z 2 W (by decide) (by decide))
    have l4 := Lib.hid (fun W : World => rlow_c m 4 W (by decide) (by decide))
    have e1 : Int.toNat 4 = 4 := rfl
    have e2 : Int.toNat 2 = 2 := rfl
    have e3 : Int.toNat 1 = 1 := rfl
    rw [e1] at l1 l4
    rw [e2] at l3
    rw [e3] at l2 l0
    clear e1 e2 e3
    have hh : lowB q 4 ++ lowB s 1 ++ lowB 0 1 ++ lowB z 2 ++ lowB m 4 = halfB q s z m := by
      have e : lowB q 4 ++ lowB s 1 ++ lowB 0 1 = lowB q 4 ++ lowB s 2 := by rw [ByteArray.append_assoc, low_two s hs.1 hs.2]
      rw [e]
      rfl
    have z7 := half_size q s z m
    have z8 := whole_size q s z m
    have wn := Lib.hid (fun k (h : k < 12) => whole_next q s z m h)
    have wf := Lib.hid (fun k (h : k < 12) => whole_first q s z m h)
    generalize lowB q 4 = L1 at *
    generalize lowB s 1 = L2 at *
    generalize lowB 0 1 = L0 at *
    generalize lowB z 2 = L3 at *
    generalize lowB m 4 = L4 at *
    generalize halfB q s z m = H at *
    generalize wholeB q s z m = WW at *
    have hs1 : (L1 ++ L2).size = 5 := by rw [ByteArray.size_append]; omega
    have hs0 : (L1 ++ L2 ++ L0).size = 6 := by rw [ByteArray.size_append]; omega
    have hs2 : (L1 ++ L2 ++ L0 ++ L3).size = 8 := by rw [ByteArray.size_append]; omega
    have r1 := fun W : World => run_bytes W H
    rw [z7] at r1
    go_enter Try.func25, Try.ntmps25
    go_upto_region 3 with (first | (go_at_call 50; with_reducible refine (mm.out _).mono ?_; rintro e w' ⟨rfl, hb⟩; have HB := bl_step (w := w) (by repeat (with_reducible first | exact HB | (refine bl_set ?_ (by omega)) | apply bl_alloc | apply bl_drew | apply bl_drewN | fail)) hb; have hzB := HB.size; have K0 := Blk.on (by first | exact K0 | exact K0 #[] | exact K0 (.cells #[] 0) #[]) (by repeat (with_reducible first | exact K0 | exact K0 _ | exact K0 _ _ | apply Blk.alloc | apply Blk.drew | apply Blk.drewN | apply Blk.set4_0 | apply Blk.set4_1 | apply Blk.set4_2 | apply Blk.set4_3 | (apply Blk.off; (first | assumption | omega | (simp; omega))) | fail)) hb; (try clear cK0_0 cK0_1 cK0_2 cK0_3 fK0 lK0 nK0 mK0); obtain ⟨cK0_0, cK0_1, cK0_2, cK0_3, fK0, lK0, nK0, mK0⟩ := Blk.all4 K0) | fail)
    have qK0_0 := fun s : Wld _ => Wld.cell cK0_0 s; have qK0_1 := fun s : Wld _ => Wld.cell cK0_1 s; have qK0_2 := fun s : Wld _ => Wld.cell cK0_2 s; have qK0_3 := fun s : Wld _ => Wld.cell cK0_3 s
    refine wld_tail 17 (by kernel_rfl) (by kernel_rfl) ?_
    simp only [List.take_succ_cons, List.take_zero, List.drop_succ_cons, List.drop_zero]
    repeat (go_big_quiet_step (first | (go_at_call 51; first | (with_reducible exact Wld.call (l1.out _)) | (with_reducible exact Wld.call (l2.out _)) | (with_reducible exact Wld.call (l0.out _)) | (with_reducible exact Wld.call (l3.out _)) | (with_reducible exact Wld.call (l4.out _)) | fail) | fail))
    refine wpQuiet_nil ?_; refine Wld.elim ?_; intro w' hb; clear qK0_0 qK0_1 qK0_2 qK0_3; have HB := bl_step (w := w) (by repeat (with_reducible first | exact HB | (refine bl_set ?_ (by omega)) | apply bl_alloc | apply bl_drew | apply bl_drewN | fail)) hb; have hzB := HB.size; have K0 := Blk.on (by first | exact K0 | exact K0 #[] | exact K0 (.cells #[] 0) #[]) (by repeat (with_reducible first | exact K0 | exact K0 _ | exact K0 _ _ | apply Blk.alloc | apply Blk.drew | apply Blk.drewN | apply Blk.set4_0 | apply Blk.set4_1 | apply Blk.set4_2 | apply Blk.set4_3 | (apply Blk.off; (first | assumption | omega | (simp; omega))) | fail)) hb; (try clear cK0_0 cK0_1 cK0_2 cK0_3 fK0 lK0 nK0 mK0); obtain ⟨cK0_0, cK0_1, cK0_2, cK0_3, fK0, lK0, nK0, mK0⟩ := Blk.all4 K0
    go_wp2_with fail
    have hcp := grownCap_ge w' 12 0 5
    have B0 : BRow ((w'.alloc (.cells (bytesRow H (grownCap w' 12 0 5)) 5 ((bytesRow H (grownCap w' 12 0 5)).size, (bytesRow H (grownCap w' 12 0 5)).size + 1))).drew) w.heap.size w'.heap.size 12 (grownCap w' 12 0 5) (preL WW 12) := by
      have h := brow_bytes w' H w.heap.size (grownCap w' 12 0 5) (by omega) HB.size
      rw [z7] at h
      have e : preL H 12 = preL WW 12 := by
        unfold preL
        exact List.map_congr_left fun k hk => wf.out k (by simpa using hk)
      rwa [e] at h
    have HB1 : Below w.heap.size w ((w'.alloc (.cells (bytesRow H (grownCap w' 12 0 5)) 5 ((bytesRow H (grownCap w' 12 0 5)).size, (bytesRow H (grownCap w' 12 0 5)).size + 1))).drew) := bl_drew (bl_alloc HB _)
    generalize (w'.alloc (.cells (bytesRow H (grownCap w' 12 0 5)) 5 ((bytesRow H (grownCap w' 12 0 5)).size, (bytesRow H (grownCap w' 12 0 5)).size + 1))).drew = w1 at *
    generalize grownCap w' 12 0 5 = cap0 at *
    generalize w'.heap.size = g0 at *
    clear r1 l0 l1 l2 l3 l4 hh hs1 hs0 hs2 z0 z1 z2 z3 z4 mm cK0_0 cK0_1 cK0_2 cK0_3 fK0 lK0 nK0 mK0
    go_loopg [4, 5] 12 (fun gg s4 s5 wr => ∃ (k g cap : Nat), k ≤ 12 ∧ 12 - k ≤ gg ∧ s5 = .int .i64 k ∧ s4 = .slice (some ⟨g, 0, none⟩) (12 + k) cap ∧ Aside (BRow wr w.heap.size g (12 + k) cap (preL WW (12 + k))) ∧ Aside (Below w.heap.size w wr))
    case atStart => exact ⟨0, g0, cap0, by omega, by omega, rfl, rfl, B0, HB1⟩
    case round =>
      clear B0 HB1 w1 hb HB K0 hzB
      obtain ⟨k, g, cap, hk, hg, rfl, rfl, BR, BW⟩ := hrel
      have HB := BW.out
      by_cases hlt : k < 12
      · have hy := byt_bd WW k
        have hcell := BR.out.2.2.2.2.2 k (byt WW k) (pre_at WW (by omega))
        have hn := Lib.hid (wn.out k hlt)
        have hps := Lib.hid (pre_succ WW (12 + k))
        have hg1 := BR.out.1
        have hg2 := BR.out.2.1
        generalize byt WW k = y at *
        have hu : IntKind.u8.wrap (255 - y) = 255 - y := by simp only [IntKind.wrap_u8]; omega
        go_wp2_with (first | (at_builtin; refine wpList_one rfl _ _ 93 rfl _ w.heap.size 5 i0 Try.underlying93 hi hz0 hz1 hz2 g (12 + k) cap (preL WW (12 + k)) rfl (BR.out.below (bl_alloc (Below.refl _ _) _)) ⟨wr.heap.size, 0, none⟩ 1 rfl (255 - y) (cells_new wr #[.int .u8 (255 - y)] _ 0 _ rfl) (by omega) (by have := HB.size; simp; omega) ?_; intro g' cap' w3 hB' hgr') | fail)
        have hb3 := bl_gb (bl_alloc HB (.cells #[.int .u8 (255 - y)] 5)) hgr' hg1
        rw [← hn.out, ← hps.out] at hB'
        go_roundg (12 - (k + 1))
        case measure => omega
        case rel => exact ⟨k + 1, g', cap', by omega, by omega, by go_num, rfl, hB', hb3⟩
      · obtain rfl : k = 12 := by omega
        have hcv := run_back wr g cap WW 24 z8.symm (fun j hj => BR.out.2.2.2.2.2 j (byt WW j) (pre_at WW (by omega)))
        go_wp2_with fail
        go_ret2
        exact ⟨rfl, HB⟩
end Go.Proofs.Ytimnhdmpfndeaaa.En
