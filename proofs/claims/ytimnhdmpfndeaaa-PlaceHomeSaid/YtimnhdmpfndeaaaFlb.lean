/- Layers 2, 3: the references' flash: Worn, Cut, Do, Blank. -/
import Derived.Test.YtimnhdmpfndeaaaFla
namespace Go.Proofs.Ytimnhdmpfndeaaa.Fl
open Go.RowKit Go.Proofs.Ytimnhdmpfndeaaa.Kt Go.Proofs.Ytimnhdmpfndeaaa.Lw Go.Proofs.Ytimnhdmpfndeaaa.St Go.Proofs.Ytimnhdmpfndeaaa.Nm Go.Proofs.Ytimnhdmpfndeaaa.By Go.Proofs.Ytimnhdmpfndeaaa.En Go.Proofs.Ytimnhdmpfndeaaa.Jr Go.Proofs.Ytimnhdmpfndeaaa.Ops
set_option linter.unusedVariables false
set_option linter.unusedSimpArgs false
def wornB (f : ByteArray) (s n : Nat) : ByteArray := f.extract 0 (s * 96) ++ fullB n ++ f.extract (s * 96 + n) f.size
theorem worn_size {f : ByteArray} {s n : Nat} (h : s * 96 + n ≤ f.size) : (wornB f s n).size = f.size := by
  unfold wornB
  rw [ByteArray.size_append, ByteArray.size_append, full_size, ByteArray.size_extract, ByteArray.size_extract]
  omega
set_option maxRecDepth 100000 in
set_option maxHeartbeats 3200000 in
theorem rworn_c (f : ByteArray) (s n : Nat) (w : World) (hf : f.size = 768) (hs : s ≤ 7) (hn : n ≤ 96) :
    Calls Try.prog 47 #[.string f, .int .i64 s, .int .i64 n] w fun e w' => e = .returned (.tuple #[.string (wornB f s n), .int .i64 0]) ∧ Below w.heap.size w w' := by
  have HB := Below.refl w.heap.size w
  have mm := Lib.hid (fun W : World => rmay_c f W (by omega))
  rw [decide_eq_true hf] at mm
  have u1 := Lib.hid (fun W : World => upTo_c (s : Int) 0 7 W)
  rw [show rngB (s : Int) 0 7 = true by simp [rngB]; omega] at u1
  have u2 := Lib.hid (fun W : World => upTo_c (n : Int) 0 96 W)
  rw [show rngB (n : Int) 0 96 = true by simp [rngB]; omega] at u2
  have fl := Lib.hid (fun W : World => rfull_c n (by omega) W)
  have hv := Lib.hid (show wornB f s n = f.extract 0 (s * 96) ++ fullB n ++ f.extract (s * 96 + n) f.size from rfl)
  have hz := full_size n
  have s1 : (f.extract 0 (s * 96)).size = s * 96 := by rw [ByteArray.size_extract]; omega
  have s3 : (f.extract (s * 96 + n) f.size).size ≤ 768 := by rw [ByteArray.size_extract]; omega
  have s2 : (f.extract 0 (s * 96) ++ fullB n).size = s * 96 + n := by rw [ByteArray.size_append, s1, hz]
  have h1 : (s : Int) * 96 ≤ (f.size : Int) := by omega
  have h2 : s * 96 ≤ f.size := by omega
  have h3 : (s : Int) * 96 + (n : Int) ≤ (f.size : Int) := by omega
  have h4 : s * 96 + n ≤ f.size := by omega
  clear hf
  generalize fullB n = Z at *
  have hq1 : (9223372036854775807 < s * 96 + n) = False := eq_false (by omega)
  have hq2 : (9223372036854775807 < s * 96 + n + (f.extract (s * 96 + n) f.size).size) = False := eq_false (by omega)
  go_enter Try.func47, Try.ntmps47
  go_wp2_with (first | (go_at_call 31; with_reducible refine (mm.out _).mono ?_; rintro e w' ⟨rfl, rfl⟩) | (go_at_call 44; with_reducible refine (u1.out _).mono ?_; rintro e w' ⟨rfl, rfl⟩) | (go_at_call 44; with_reducible refine (u2.out _).mono ?_; rintro e w' ⟨rfl, rfl⟩) | fail)
  refine wld_lit (by kernel_rfl) (by kernel_rfl) ?_
  repeat (go_big_quiet_step (first | (go_at_call 49; with_reducible exact Wld.call (fl.out _)) | fail))
  refine wpQuiet_nil ?_; refine Wld.elim ?_; intro w' hb; have HB := bl_step (w := w) (by repeat (with_reducible first | exact HB | (refine bl_set ?_ (by omega)) | apply bl_alloc | apply bl_drew | apply bl_drewN | fail)) hb; have hzB := HB.size
  go_wp2_with fail
  go_ret2
  exact ⟨by rw [hv.out]; rfl, HB⟩
/-- so much of a step. -/
def cutB (f : ByteArray) (o : OpV) (n : Nat) : ByteArray := bif o.1 then wornB f (o.2.1 / 96).toNat n else tornB f o.2.1.toNat o.2.2 (min n 32)
def cutV (f : ByteArray) (o : OpV) (n : Int) : Array Value := if f.size = 768 ∧ opMay o = true ∧ 0 ≤ n ∧ n ≤ 96 then #[.string (cutB f o n.toNat), .int .i64 0] else #[.string ⟨#[]⟩, .int .i64 300]
theorem op_erase {o : OpV} (h : opMay o = true) (he : o.1 = true) : 0 ≤ o.2.1 ∧ o.2.1 ≤ 672 ∧ o.2.1 % 96 = 0 := by
  simp [opMay, he, rngB] at h
  omega
theorem op_word {o : OpV} (h : opMay o = true) (he : o.1 = false) : 0 ≤ o.2.1 ∧ o.2.1 ≤ 764 ∧ o.2.1 % 4 = 0 ∧ o.2.2.size = 4 := by
  simp [opMay, he, rngB, bgnB] at h
  omega
theorem ret2 {a b : Array Value} (h : a = b) : Ending.returned (.tuple a) = Ending.returned (.tuple b) := by rw [h]
set_option maxRecDepth 100000 in
set_option maxHeartbeats 6400000 in
theorem rcut_c (f : ByteArray) (o : OpV) (n : Int) (w : World) (h : f.size ≤ 9223372036854775807) (ho : OpOk o) :
    Calls Try.prog 23 #[.string f, .agg #[.bool o.1, .int .i64 o.2.1, .string o.2.2], .int .i64 n] w fun e w' => e = .returned (.tuple (cutV f o n)) ∧ Below w.heap.size w w' := by
  have HB := Below.refl w.heap.size w
  have K0 := Blk.new w #[.bool o.1, .int .i64 o.2.1, .string o.2.2] 50
  have mm := Lib.hid (fun W : World => rmay_c f W h)
  have oo := Lib.hid (fun W : World => rOpMay_c o W ho)
  have uu := Lib.hid (fun W : World => upTo_c n 0 96 W)
  by_cases hf : f.size = 768
  · rw [decide_eq_true hf] at mm
    cases hm : opMay o
    · rw [hm] at oo
      have hv : cutV f o n = #[.string ⟨#[]⟩, .int .i64 300] := by simp [cutV, hm]
      rw [hv]
      clear hf hm hv
      go_enter Try.func23, Try.ntmps23
      go_wp2_with (first | (go_at_call 31; with_reducible refine (mm.out _).mono ?_; rintro e w' ⟨rfl, rfl⟩) | (go_at_call 22; with_reducible refine (oo.out _).mono ?_; rintro e w' ⟨rfl, hb⟩; have HB := bl_step (w := w) (by repeat (with_reducible first | exact HB | (refine bl_set ?_ (by omega)) | apply bl_alloc | apply bl_drew | apply bl_drewN | fail)) hb; have hzB := HB.size; have K0 := Blk.on (by first | exact K0 | exact K0 #[] | exact K0 (.cells #[] 0) #[]) (by repeat (with_reducible first | exact K0 | exact K0 _ | exact K0 _ _ | apply Blk.alloc | apply Blk.drew | apply Blk.drewN | apply Blk.set3_0 | apply Blk.set3_1 | apply Blk.set3_2 | (apply Blk.off; (first | assumption | omega | (simp; omega))) | fail)) hb; (try clear cK0_0 cK0_1 cK0_2 fK0 lK0 nK0 mK0); obtain ⟨cK0_0, cK0_1, cK0_2, fK0, lK0, nK0, mK0⟩ := Blk.all3 K0) | fail)
      go_ret2
      exact ⟨rfl, HB⟩
    · rw [hm] at oo
      by_cases hn : 0 ≤ n ∧ n ≤ 96
      · rw [show rngB n 0 96 = true by simp [rngB]; omega] at uu
        obtain ⟨k, rfl⟩ := Int.eq_ofNat_of_zero_le hn.1
        have hv : cutV f o (k : Int) = #[.string (cutB f o k), .int .i64 0] := by simp [cutV, hm, hf, hn.2]
        rw [hv]
        cases he : o.1
        · obtain ⟨a0, a1, a2, a3⟩ := op_word hm he
          obtain ⟨a, ha⟩ := Int.eq_ofNat_of_zero_le a0
          have hmin : min (k : Int) 32 = ((min k 32 : Nat) : Int) := by omega
          have tt := Lib.hid (fun W : World => rtorn_c f a o.2.2 (min k 32) W hf (by omega) (by omega) a3 (by omega))
          have hw := Lib.hid (show cutB f o k = tornB f a o.2.2 (min k 32) by simp [cutB, he, ha])
          rw [he] at K0 oo
          rw [ha] at K0 oo
          rw [← hmin] at tt
          rw [ha]
          clear hf hm hv hn hmin he a0 a1 a2 a3 ho
          go_enter Try.func23, Try.ntmps23
          go_wp2_with (first | (go_at_call 31; with_reducible refine (mm.out _).mono ?_; rintro e w' ⟨rfl, rfl⟩) | (go_at_call 22; with_reducible refine (oo.out _).mono ?_; rintro e w' ⟨rfl, hb⟩; have HB := bl_step (w := w) (by repeat (with_reducible first | exact HB | (refine bl_set ?_ (by omega)) | apply bl_alloc | apply bl_drew | apply bl_drewN | fail)) hb; have hzB := HB.size; have K0 := Blk.on (by first | exact K0 | exact K0 #[] | exact K0 (.cells #[] 0) #[]) (by repeat (with_reducible first | exact K0 | exact K0 _ | exact K0 _ _ | apply Blk.alloc | apply Blk.drew | apply Blk.drewN | apply Blk.set3_0 | apply Blk.set3_1 | apply Blk.set3_2 | (apply Blk.off; (first | assumption | omega | (simp; omega))) | fail)) hb; (try clear cK0_0 cK0_1 cK0_2 fK0 lK0 nK0 mK0); obtain ⟨cK0_0, cK0_1, cK0_2, fK0, lK0, nK0, mK0⟩ := Blk.all3 K0) | (go_at_call 44; with_reducible refine (uu.out _).mono ?_; rintro e w' ⟨rfl, rfl⟩) | (go_at_call 48; with_reducible refine (tt.out _).mono ?_; rintro e w' ⟨rfl, hb⟩; have HB := bl_step (w := w) (by repeat (with_reducible first | exact HB | (refine bl_set ?_ (by omega)) | apply bl_alloc | apply bl_drew | apply bl_drewN | fail)) hb; have hzB := HB.size; have K0 := Blk.on (by first | exact K0 | exact K0 #[] | exact K0 (.cells #[] 0) #[]) (by repeat (with_reducible first | exact K0 | exact K0 _ | exact K0 _ _ | apply Blk.alloc | apply Blk.drew | apply Blk.drewN | apply Blk.set3_0 | apply Blk.set3_1 | apply Blk.set3_2 | (apply Blk.off; (first | assumption | omega | (simp; omega))) | fail)) hb; (try clear cK0_0 cK0_1 cK0_2 fK0 lK0 nK0 mK0); obtain ⟨cK0_0, cK0_1, cK0_2, fK0, lK0, nK0, mK0⟩ := Blk.all3 K0) | fail)
          go_ret2
          exact ⟨by rw [hw.out]; rfl, HB⟩
        · obtain ⟨a0, a1, a2⟩ := op_erase hm he
          obtain ⟨s, hs⟩ : ∃ s : Nat, o.2.1 / 96 = (s : Int) := ⟨(o.2.1 / 96).toNat, by omega⟩
          have tt := Lib.hid (fun W : World => rworn_c f s k W hf (by omega) (by omega))
          have hw := Lib.hid (show cutB f o k = wornB f s k by simp [cutB, he, hs])
          rw [he] at K0 oo
          clear hf hm hv hn he a2 ho
          generalize o.2.1 = x at *
          go_enter Try.func23, Try.ntmps23
          go_wp2_with (first | (go_at_call 31; with_reducible refine (mm.out _).mono ?_; rintro e w' ⟨rfl, rfl⟩) | (go_at_call 22; with_reducible refine (oo.out _).mono ?_; rintro e w' ⟨rfl, hb⟩; have HB := bl_step (w := w) (by repeat (with_reducible first | exact HB | (refine bl_set ?_ (by omega)) | apply bl_alloc | apply bl_drew | apply bl_drewN | fail)) hb; have hzB := HB.size; have K0 := Blk.on (by first | exact K0 | exact K0 #[] | exact K0 (.cells #[] 0) #[]) (by repeat (with_reducible first | exact K0 | exact K0 _ | exact K0 _ _ | apply Blk.alloc | apply Blk.drew | apply Blk.drewN | apply Blk.set3_0 | apply Blk.set3_1 | apply Blk.set3_2 | (apply Blk.off; (first | assumption | omega | (simp; omega))) | fail)) hb; (try clear cK0_0 cK0_1 cK0_2 fK0 lK0 nK0 mK0); obtain ⟨cK0_0, cK0_1, cK0_2, fK0, lK0, nK0, mK0⟩ := Blk.all3 K0) | (go_at_call 44; with_reducible refine (uu.out _).mono ?_; rintro e w' ⟨rfl, rfl⟩) | (go_at_call 47; with_reducible refine (tt.out _).mono ?_; rintro e w' ⟨rfl, hb⟩; have HB := bl_step (w := w) (by repeat (with_reducible first | exact HB | (refine bl_set ?_ (by omega)) | apply bl_alloc | apply bl_drew | apply bl_drewN | fail)) hb; have hzB := HB.size; have K0 := Blk.on (by first | exact K0 | exact K0 #[] | exact K0 (.cells #[] 0) #[]) (by repeat (with_reducible first | exact K0 | exact K0 _ | exact K0 _ _ | apply Blk.alloc | apply Blk.drew | apply Blk.drewN | apply Blk.set3_0 | apply Blk.set3_1 | apply Blk.set3_2 | (apply Blk.off; (first | assumption | omega | (simp; omega))) | fail)) hb; (try clear cK0_0 cK0_1 cK0_2 fK0 lK0 nK0 mK0); obtain ⟨cK0_0, cK0_1, cK0_2, fK0, lK0, nK0, mK0⟩ := Blk.all3 K0) | fail)
          go_ret2
          exact ⟨by rw [hw.out]; rfl, HB⟩
      · rw [show rngB n 0 96 = false by simp [rngB]; omega] at uu
        have hv : cutV f o n = #[.string ⟨#[]⟩, .int .i64 300] := if_neg (fun h => hn ⟨h.2.2.1, h.2.2.2⟩)
        rw [hv]
        clear hf hm hv hn
        go_enter Try.func23, Try.ntmps23
        go_wp2_with (first | (go_at_call 31; with_reducible refine (mm.out _).mono ?_; rintro e w' ⟨rfl, rfl⟩) | (go_at_call 22; with_reducible refine (oo.out _).mono ?_; rintro e w' ⟨rfl, hb⟩; have HB := bl_step (w := w) (by repeat (with_reducible first | exact HB | (refine bl_set ?_ (by omega)) | apply bl_alloc | apply bl_drew | apply bl_drewN | fail)) hb; have hzB := HB.size; have K0 := Blk.on (by first | exact K0 | exact K0 #[] | exact K0 (.cells #[] 0) #[]) (by repeat (with_reducible first | exact K0 | exact K0 _ | exact K0 _ _ | apply Blk.alloc | apply Blk.drew | apply Blk.drewN | apply Blk.set3_0 | apply Blk.set3_1 | apply Blk.set3_2 | (apply Blk.off; (first | assumption | omega | (simp; omega))) | fail)) hb; (try clear cK0_0 cK0_1 cK0_2 fK0 lK0 nK0 mK0); obtain ⟨cK0_0, cK0_1, cK0_2, fK0, lK0, nK0, mK0⟩ := Blk.all3 K0) | (go_at_call 44; with_reducible refine (uu.out _).mono ?_; rintro e w' ⟨rfl, rfl⟩) | fail)
        go_ret2
        exact ⟨rfl, HB⟩
  · rw [decide_eq_false hf] at mm
    have hv : cutV f o n = #[.string ⟨#[]⟩, .int .i64 300] := if_neg (fun h => hf h.1)
    rw [hv]
    clear hf hv
    go_enter Try.func23, Try.ntmps23
    go_wp2_with (first | (go_at_call 31; with_reducible refine (mm.out _).mono ?_; rintro e w' ⟨rfl, rfl⟩) | fail)
    go_ret2
    exact ⟨rfl, (by repeat (with_reducible first | exact Below.refl _ _ | assumption | (refine bl_set ?_ (by omega)) | apply bl_alloc | apply bl_drewN | apply bl_drew | (refine bl_step ?_ (by assumption)) | fail))⟩
def doB (f : ByteArray) (o : OpV) : ByteArray := cutB f o 96
def doV (f : ByteArray) (o : OpV) : Array Value := cutV f o 96
theorem do_yes {f : ByteArray} {o : OpV} (hf : f.size = 768) (hm : opMay o = true) : doV f o = #[.string (doB f o), .int .i64 0] := by simp [doV, cutV, hf, hm, doB]
theorem cut_size {f : ByteArray} {o : OpV} {n : Nat} (hf : f.size = 768) (hm : opMay o = true) (hn : n ≤ 96) : (cutB f o n).size = 768 := by
  cases he : o.1
  · obtain ⟨a0, a1, a2, a3⟩ := op_word hm he
    simp only [cutB, he, cond_false]
    rw [torn_size _ _ (by omega)]
    exact hf
  · obtain ⟨a0, a1, a2⟩ := op_erase hm he
    simp only [cutB, he, cond_true]
    rw [worn_size (by omega)]
    exact hf
theorem do_size {f : ByteArray} {o : OpV} (hf : f.size = 768) (hm : opMay o = true) : (doB f o).size = 768 := cut_size hf hm (Nat.le_refl _)
theorem rdo_c (f : ByteArray) (o : OpV) (w : World) (h : f.size ≤ 9223372036854775807) (ho : OpOk o) :
    Calls Try.prog 21 #[.string f, .agg #[.bool o.1, .int .i64 o.2.1, .string o.2.2]] w fun e w' => e = .returned (.tuple (doV f o)) ∧ Below w.heap.size w w' := by
  have HB := Below.refl w.heap.size w
  have K0 := Blk.new w #[.bool o.1, .int .i64 o.2.1, .string o.2.2] 50
  obtain ⟨x, hx⟩ : ∃ x, doV f o = x := ⟨_, rfl⟩
  have cc := Lib.hid (fun W : World => rcut_c f o 96 W h ho)
  obtain ⟨v0, v1, hv⟩ : ∃ v0 v1 : Value, cutV f o 96 = #[v0, v1] := by
    unfold cutV
    split
    · exact ⟨_, _, rfl⟩
    · exact ⟨_, _, rfl⟩
  have hd : doV f o = #[v0, v1] := hv
  rw [hd]
  rw [hv] at cc
  clear hx hv hd
  go_enter Try.func21, Try.ntmps21
  go_wp2_with (first | (go_at_call 23; with_reducible refine (cc.out _).mono ?_; rintro e w' ⟨rfl, hb⟩; have HB := bl_step (w := w) (by repeat (with_reducible first | exact HB | (refine bl_set ?_ (by omega)) | apply bl_alloc | apply bl_drew | apply bl_drewN | fail)) hb; have hzB := HB.size; have K0 := Blk.on (by first | exact K0 | exact K0 #[] | exact K0 (.cells #[] 0) #[]) (by repeat (with_reducible first | exact K0 | exact K0 _ | exact K0 _ _ | apply Blk.alloc | apply Blk.drew | apply Blk.drewN | apply Blk.set3_0 | apply Blk.set3_1 | apply Blk.set3_2 | (apply Blk.off; (first | assumption | omega | (simp; omega))) | fail)) hb; (try clear cK0_0 cK0_1 cK0_2 fK0 lK0 nK0 mK0); obtain ⟨cK0_0, cK0_1, cK0_2, fK0, lK0, nK0, mK0⟩ := Blk.all3 K0) | fail)
  go_ret2
  exact ⟨rfl, HB⟩
theorem blank_c (w : World) : Calls Try.prog 24 #[] w fun e w' => e = .returned (.string (fullB 768)) ∧ Below w.heap.size w w' := by
  have HB := Below.refl w.heap.size w
  have fl := Lib.hid (fun W : World => rfull_c 768 (by decide) W)
  rw [show ((768 : Nat) : Int) = 768 from rfl] at fl
  go_enter Try.func24, Try.ntmps24
  go_wp2_with (first | (go_at_call 49; with_reducible refine (fl.out _).mono ?_; rintro e w' ⟨rfl, hb⟩; have HB := bl_step (w := w) (by repeat (with_reducible first | exact HB | (refine bl_set ?_ (by omega)) | apply bl_alloc | apply bl_drew | apply bl_drewN | fail)) hb; have hzB := HB.size) | fail)
  go_ret
  exact ⟨rfl, HB⟩
end Go.Proofs.Ytimnhdmpfndeaaa.Fl
