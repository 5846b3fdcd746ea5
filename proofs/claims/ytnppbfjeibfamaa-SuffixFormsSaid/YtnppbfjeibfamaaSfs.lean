/- Layer 11: the law's walk: SuffixForms. -/
import Derived.Test.YtnppbfjeibfamaaSfr
import Derived.BigRegion
namespace Go.Proofs.Ytnppbfjeibfamaa.Sf
open Go.RowKit Go.Proofs.Ytnppbfjeibfamaa.Kt Go.Proofs.Ytnppbfjeibfamaa.Lw Go.Proofs.Ytnppbfjeibfamaa.St Go.Proofs.Ytnppbfjeibfamaa.Nm Go.Proofs.Ytnppbfjeibfamaa.Ic Go.Proofs.Ytnppbfjeibfamaa.Cr Go.Proofs.Ytnppbfjeibfamaa.Es Go.Proofs.Ytnppbfjeibfamaa.Bt Go.Proofs.Ytnppbfjeibfamaa.By
set_option linter.unusedVariables false
set_option linter.unusedSimpArgs false
attribute [local go_sem high] eqIds
theorem pick3 (k : Nat) (hk : k < 3) (m : Int) (m0 : 0 ≤ m) (T : TypeId) : ∃ q0 q1 q2 : Int, mayB q0 q1 q2 = false ∧ ∀ W : World, let W' := W.alloc (.cells #[.int .i64 (-(1 + m)), .int .i64 0, .int .i64 0, .int .i64 0, .int .i64 (65535 + (1 + m)), .int .i64 0, .int .i64 0, .int .i64 0, .int .i64 (-(1 + m))] T)
    W'.cell? ⟨W.heap.size, k * 3, none⟩ = some (.int .i64 q0) ∧ W'.cell? ⟨W.heap.size, k * 3 + 1, none⟩ = some (.int .i64 q1) ∧ W'.cell? ⟨W.heap.size, k * 3 + 2, none⟩ = some (.int .i64 q2) := by
  have no : ∀ {x l u : Int}, ¬ (l ≤ x ∧ x ≤ u) → rngB x l u = false := fun h => by
    rw [← Bool.not_eq_true]
    simpa [rngB] using h
  have h : k = 0 ∨ k = 1 ∨ k = 2 := by omega
  rcases h with rfl | rfl | rfl
  · exact ⟨_, _, _, by simp only [mayB]; rw [no (x := -(1 + m)) (by omega)]; rfl, fun W => ⟨(Blk.new W _ T).cell 0, (Blk.new W _ T).cell 1, (Blk.new W _ T).cell 2⟩⟩
  · exact ⟨_, _, _, by simp only [mayB]; rw [no (x := 65535 + (1 + m)) (by omega)]; simp, fun W => ⟨(Blk.new W _ T).cell 3, (Blk.new W _ T).cell 4, (Blk.new W _ T).cell 5⟩⟩
  · exact ⟨_, _, _, by simp only [mayB]; rw [no (x := -(1 + m)) (by omega)]; simp, fun W => ⟨(Blk.new W _ T).cell 6, (Blk.new W _ T).cell 7, (Blk.new W _ T).cell 8⟩⟩
def frm : ByteArray := ⟨#[105, 109, 97, 103, 101, 3, 0, 2, 0, 1, 0, 0, 1, 85, 70, 68, 16, 123, 128, 121, 105]⟩
set_option maxRecDepth 100000 in
theorem form_facts : bldB ⟨#[105, 109, 97, 103, 101]⟩ 1 2 3 = frm ∧ frm.size = 21 ∧ parM frm = true ∧ parF frm = true ∧ parS frm = true ∧ (numB (frm.extract 17 21) == crcB (frm.extract 0 17)) = true := by
  refine ⟨by decide +kernel, by decide +kernel, by decide +kernel, by decide +kernel, by decide +kernel, by decide +kernel⟩
def zeros (n : Nat) : ByteArray := strOfNums (List.replicate n 0)
theorem zeros_size (n : Nat) : (zeros n).size = n := by simp [zeros, strOfNums, ByteArray.size]
theorem bl_turn {w W : World} {o : Obj} {p : Nat} {v : Value} (h : Below w.heap.size w W) : Below w.heap.size w ((W.alloc o).setCell ⟨W.heap.size, p, none⟩ v).drew := bl_drew (bl_set (bl_alloc h _) h.size)
theorem idx_of {S : ByteArray} (h1 : S.size = 21) (p : Nat) (hp : p < 21) : (p : Int) < 21 := by omega
set_option maxRecDepth 100000 in
set_option maxHeartbeats 6400000 in
theorem forms_0 (x0 x1 m y z : Int) (k a b n : Nat) (S : ByteArray) (X Y : Int) (w : World) (hk : wrap64 (Int.tmod (IntKind.u64.wrap x0) 3) = (k : Int)) (k1 : k < 3) (hm : Go.bits .and .i64 x1 1023 = m) (m0 : 0 ≤ m) (m1 : m < 1024)
    (ha : wrap64 (Int.tmod (IntKind.u64.wrap x0) 6) = (a : Int)) (a1 : a < 6) (hb' : wrap64 (Int.tmod (IntKind.u64.wrap x1) 11) = (b : Int)) (b1 : b < 11) (hy : Go.bits .and .i64 x1 127 = y) (y0 : 0 ≤ y) (y1 : y < 128) (hz : Go.bits .and .i64 x0 127 = z) (z0 : 0 ≤ z) (z1 : z < 128)
    (hn : 288 + (1 + m) = (n : Int)) (hS : bldB ⟨#[105, 109, 97, 103, 101]⟩ 1 2 3 = S) (h1 : S.size = 21) (hfin : (numB (S.extract 17 21) == crcB (S.extract 0 17)) = true)
    (hX : Go.bits .xor .u8 (byt S (11 + a)) (1 + y) = X) (hY : Go.bits .xor .u8 (byt S b) (1 + z) = Y) (X0 : 0 ≤ X) (X1 : X < 256) (Y0 : 0 ≤ Y) (Y1 : Y < 256)
    (p1 : parV3 (setS S (11 + a) X) = .tuple #[.string ⟨#[]⟩, .agg #[.int .i64 0, .int .i64 0, .int .i64 0], .int .i64 1100]) (p4 : parV3 (setS S b Y) = .tuple #[.string ⟨#[]⟩, .agg #[.int .i64 0, .int .i64 0, .int .i64 0], .int .i64 1101]) :
    Calls Try.prog 5 #[.int .i64 x0, .int .i64 x1] w fun e w' => e = .returned (.bool true) ∧ Below w.heap.size w w' := by
  have HB := Below.refl w.heap.size w
  obtain ⟨q0, q1, q2, hq, hc⟩ := pick3 k k1 m m0 23
  have hc0 := fun (W : World) (o : Obj) => (by have := (hc (W.alloc o)).1; rwa [World.size_alloc] at this : ((W.alloc o).alloc (.cells #[.int .i64 (-(1 + m)), .int .i64 0, .int .i64 0, .int .i64 0, .int .i64 (65535 + (1 + m)), .int .i64 0, .int .i64 0, .int .i64 0, .int .i64 (-(1 + m))] 23)).cell? ⟨W.heap.size + 1, k * 3, none⟩ = some (.int .i64 q0))
  have hc1 := fun (W : World) (o : Obj) => (by have := (hc (W.alloc o)).2.1; rwa [World.size_alloc] at this : ((W.alloc o).alloc (.cells #[.int .i64 (-(1 + m)), .int .i64 0, .int .i64 0, .int .i64 0, .int .i64 (65535 + (1 + m)), .int .i64 0, .int .i64 0, .int .i64 0, .int .i64 (-(1 + m))] 23)).cell? ⟨W.heap.size + 1, k * 3 + 1, none⟩ = some (.int .i64 q1))
  have hc2 := fun (W : World) (o : Obj) => (by have := (hc (W.alloc o)).2.2; rwa [World.size_alloc] at this : ((W.alloc o).alloc (.cells #[.int .i64 (-(1 + m)), .int .i64 0, .int .i64 0, .int .i64 0, .int .i64 (65535 + (1 + m)), .int .i64 0, .int .i64 0, .int .i64 0, .int .i64 (-(1 + m))] 23)).cell? ⟨W.heap.size + 1, k * 3 + 2, none⟩ = some (.int .i64 q2))
  clear hc
  have n0 : n ≤ 1400 := by omega
  have f0 : bldE ⟨#[105, 109, 97, 103, 101]⟩ q0 q1 q2 = 1100 := by simp [bldE, bldOk, hq]
  have f1 : bldE ⟨#[105, 109, 97, 103, 101]⟩ 1 2 3 = 0 := by decide
  have zz := zeros_size n
  have f2 : bldE (zeros n) 1 2 3 = 1100 := by
    have : rngB (n : Int) 1 288 = false := by rw [← Bool.not_eq_true]; simp [rngB]; omega
    simp [bldE, bldOk, zz, this]
  have p2 : parV3 (S.extract 5 21) = .tuple #[.string ⟨#[]⟩, .agg #[.int .i64 0, .int .i64 0, .int .i64 0], .int .i64 1100] := small_form (by simp; omega)
  have p3 : parV3 (zeros n ++ S.extract 5 21) = .tuple #[.string ⟨#[]⟩, .agg #[.int .i64 0, .int .i64 0, .int .i64 0], .int .i64 1100] := big_form (by rw [ByteArray.size_append, zz, ByteArray.size_extract]; omega)
  have s1 : S.size ≤ 9223372036854775807 := by omega
  have s2 : (zeros n).size ≤ 9223372036854775807 := by omega
  have s3 : (setS S (11 + a) X).size ≤ 9223372036854775807 := by rw [setS_size]; omega
  have s4 : (setS S b Y).size ≤ 9223372036854775807 := by rw [setS_size]; omega
  have s5 : (S.extract 5 21).size ≤ 9223372036854775807 := by simp; omega
  have s6 : (zeros n ++ S.extract 5 21).size ≤ 9223372036854775807 := by rw [ByteArray.size_append, zz, ByteArray.size_extract]; omega
  have s7 : (S.extract 17 21).size ≤ 4 := by simp; omega
  have s8 : (S.extract 0 17).size ≤ 9223372036854775807 := by simp; omega
  clear hq
  go_enter Try.func5, Try.ntmps5
  go_upto_region 7 with (first | (go_at_call 18; refine (awake_c _).mono ?_; rintro e wa ⟨rfl, hb⟩; have HB := bl_step (by repeat (with_reducible first | exact HB | apply bl_alloc | apply bl_drew | apply bl_drewN | fail)) hb; have K0 := fun cs => Blk.new wa cs 23) | (go_at_call 13; refine (build_c _ _ _ _ _ (by first | assumption | decide | (simp; omega) | omega)).mono ?_; rintro e w' ⟨rfl, hb⟩; have HB := bl_step (by repeat (with_reducible first | exact HB | apply bl_alloc | apply bl_drew | apply bl_drewN | fail)) hb; have K0 := Blk.below (by repeat (with_reducible first | exact K0 | exact K0 _ | exact K0 _ _ | apply Blk.alloc | apply Blk.drew | apply Blk.drewN | fail)) hb; obtain ⟨_, _, _, _, _, _, _⟩ := Blk.all3 K0) | (go_at_call 17; refine (enum_c _ _).mono ?_; rintro e w' ⟨rfl, rfl⟩) | fail)
  have hmk := make_row (P := Try.prog) 38 5 .u8 1 Try.underlying38 info5 (by decide) n (by omega)
  have hcv := fun W : World => own_str (P := Try.prog) Try.underlying38 Try.underlying5 Try.underlying9 (own_made W W.heap.size 5 .u8 n (Nat.le_refl _) (by omega))
  have hcd := fun W : World => own_str (P := Try.prog) (w := (W.alloc (.cells (madeCells #[.int .u8 0] n) 5)).drew) Try.underlying38 Try.underlying5 Try.underlying9 (own_made W W.heap.size 5 .u8 n (Nat.le_refl _) (by omega))
  have hzn : strOfNums (List.replicate n 0) = zeros n := rfl
  have hw : IntKind.i64.wrap (n : Int) = (n : Int) := by rw [IntKind.wrap_i64]; omega
  have HC : w'.cell? ⟨wa.heap.size, 0, none⟩ = some (.int .i64 1) ∧ w'.cell? ⟨wa.heap.size, 1, none⟩ = some (.int .i64 2) ∧ w'.cell? ⟨wa.heap.size, 2, none⟩ = some (.int .i64 3) := ⟨K0.cell 0, K0.cell 1, K0.cell 2⟩
  clear hc0 hc1 hc2
  go_cut [11] (fun v11 wc => v11 = .int .i64 1100 ∧ Below w'.heap.size w' wc)
  case first =>
    go_region_with (first | (go_at_call 13; refine (build_c _ _ _ _ _ (by first | assumption | decide | (simp; omega) | omega)).mono ?_; rintro e wq ⟨rfl, hb⟩) | fail)
    all_goals (go_wp2_with fail; go_meet; exact ⟨rfl, by repeat (with_reducible first | exact Below.refl _ _ | assumption | apply bl_alloc | apply bl_drew | (refine bl_step ?_ (by assumption)) | fail)⟩)
  case rest =>
  obtain ⟨rfl, hb⟩ := hcut
  have HB := bl_step (by repeat (with_reducible first | exact HB | apply bl_alloc | apply bl_drew | apply bl_drewN | fail)) hb; have K0 := Blk.below (by repeat (with_reducible first | exact K0 | exact K0 _ | exact K0 _ _ | apply Blk.alloc | apply Blk.drew | apply Blk.drewN | fail)) hb; obtain ⟨_, _, _, _, _, _, _⟩ := Blk.all3 K0
  have r1 := fun W : World => run_bytes W S
  have ra2 := fun (W : World) (cap : Nat) (fr : Nat × Nat) => bytes_cell W S cap (11 + a) fr (by omega)
  have ra3 := fun (W : World) (cap : Nat) => bytes_frozen W S cap (11 + a) (by omega)
  have ra4 := fun (W : World) (cap : Nat) => back_set W S 21 cap (11 + a) X h1.symm (by omega) X0 X1
  have rb2 := fun (W : World) (cap : Nat) (fr : Nat × Nat) => bytes_cell W S cap b fr (by omega)
  have rb3 := fun (W : World) (cap : Nat) => bytes_frozen W S cap b (by omega)
  have rb4 := fun (W : World) (cap : Nat) => back_set W S 21 cap b Y h1.symm (by omega) Y0 Y1
  clear hmk hcv hcd
  go_upto_region 16 with (first | (go_at_call 13; refine (build_c _ _ _ _ _ (by first | assumption | decide | (simp; omega) | omega)).mono ?_; rintro e w' ⟨rfl, hb⟩; have HB := bl_step (by repeat (with_reducible first | exact HB | apply bl_alloc | apply bl_drew | apply bl_drewN | fail)) hb; have K0 := Blk.below (by repeat (with_reducible first | exact K0 | exact K0 _ | exact K0 _ _ | apply Blk.alloc | apply Blk.drew | apply Blk.drewN | fail)) hb; obtain ⟨_, _, _, _, _, _, _⟩ := Blk.all3 K0) | (go_at_call 15; refine (parse_c _ _ (by first | assumption | decide | (simp; omega) | omega)).mono ?_; rintro e w' ⟨rfl, hb⟩; have HB := bl_step (by first | exact bl_turn HB | (repeat (with_reducible first | exact HB | apply bl_alloc | apply bl_drew | fail))) hb) | fail)
  have B5 := bl_alloc HB (.cells #[.int .i64 0, .int .i64 0, .int .i64 0] 23)
  generalize w'.alloc (.cells #[.int .i64 0, .int .i64 0, .int .i64 0] 23) = w5 at *
  have hmk := make_row (P := Try.prog) 38 5 .u8 1 Try.underlying38 info5 (by decide) n (by omega)
  have hcv := fun W : World => own_str (P := Try.prog) Try.underlying38 Try.underlying5 Try.underlying9 (own_made W W.heap.size 5 .u8 n (Nat.le_refl _) (by omega))
  have hcd := fun W : World => own_str (P := Try.prog) (w := (W.alloc (.cells (madeCells #[.int .u8 0] n) 5)).drew) Try.underlying38 Try.underlying5 Try.underlying9 (own_made W W.heap.size 5 .u8 n (Nat.le_refl _) (by omega))
  have hcB := fun (W : World) (o : Obj) => own_str (P := Try.prog) (w := ((W.alloc (.cells (madeCells #[.int .u8 0] n) 5)).alloc o).drew) Try.underlying38 Try.underlying5 Try.underlying9 ((own_made W W.heap.size 5 .u8 n (Nat.le_refl _) (by omega)).alloc o)
  have hcC := fun (W : World) (o : Obj) => (by
    have := own_str (P := Try.prog) (w := ((W.alloc o).alloc (.cells (madeCells #[.int .u8 0] n) 5)).drew) Try.underlying38 Try.underlying5 Try.underlying9 (own_made (W.alloc o) (W.alloc o).heap.size 5 .u8 n (Nat.le_refl _) (by omega))
    rwa [World.size_alloc] at this : (convert 38 9 (.slice (some ⟨W.heap.size + 1, 0, none⟩) n n)).run Try.prog ((W.alloc o).alloc (.cells (madeCells #[.int .u8 0] n) 5)).drew = .ok (.string (strOfNums (List.replicate n 0))) ((W.alloc o).alloc (.cells (madeCells #[.int .u8 0] n) 5)).drew)
  have hzn2 : strOfNums (List.replicate n 0) = zeros n := rfl
  have hw2 : IntKind.i64.wrap (n : Int) = (n : Int) := by rw [IntKind.wrap_i64]; omega
  have qz : (9223372036854775807 < n + 16) = False := by simp; omega
  clear r1 ra2 ra3 ra4 rb2 rb3 rb4 HB K0 HC
  go_cut [24] (fun v24 wc => v24 = .int .i64 1100 ∧ Below w5.heap.size w5 wc)
  case first =>
    go_region_with (first | (go_at_call 15; refine (parse_c _ _ (by first | assumption | decide | (simp; omega) | omega)).mono ?_; rintro e wq ⟨rfl, hb⟩; obtain ⟨hcc, hff, hll, hnn, hnm⟩ := keep hb) | fail)
    all_goals (go_wp2_with fail; go_meet; exact ⟨rfl, by repeat (with_reducible first | exact Below.refl _ _ | assumption | apply bl_alloc | apply bl_drew | (refine bl_set ?_ (by first | omega | (simp; omega))) | (refine bl_step ?_ (by assumption)) | fail)⟩)
  case rest =>
    obtain ⟨rfl, hb5⟩ := hcut
    have HB := bl_step B5 hb5
    clear hmk hcv hcd hcB hcC
    have r1 := fun W : World => run_bytes W S
    have ra2 := fun (W : World) (cap : Nat) (fr : Nat × Nat) => bytes_cell W S cap (11 + a) fr (by omega)
    have ra3 := fun (W : World) (cap : Nat) => bytes_frozen W S cap (11 + a) (by omega)
    have ra4 := fun (W : World) (cap : Nat) => back_set W S 21 cap (11 + a) X h1.symm (by omega) X0 X1
    have rb2 := fun (W : World) (cap : Nat) (fr : Nat × Nat) => bytes_cell W S cap b fr (by omega)
    have rb3 := fun (W : World) (cap : Nat) => bytes_frozen W S cap b (by omega)
    have rb4 := fun (W : World) (cap : Nat) => back_set W S 21 cap b Y h1.symm (by omega) Y0 Y1
    go_wp2_with (first | (go_at_call 15; refine (parse_c _ _ (by first | assumption | decide | (simp; omega) | omega)).mono ?_; rintro e w' ⟨rfl, hb⟩; have HB := bl_step (by first | exact bl_turn HB | (repeat (with_reducible first | exact HB | apply bl_alloc | apply bl_drew | fail))) hb) | (go_at_call 19; refine (rcrc_c _ _ (by first | assumption | decide | (simp; omega) | omega)).mono ?_; rintro e w' ⟨rfl, rfl⟩) | (go_at_call 20; refine (of_c _ _ s7).mono ?_; rintro e w' ⟨rfl, rfl⟩) | (go_at_call 17; refine (enum_c _ _).mono ?_; rintro e w' ⟨rfl, rfl⟩) | fail)
    go_ret
    exact ⟨by simp, (by repeat (with_reducible first | exact Below.refl _ _ | assumption | (refine bl_set ?_ (by omega)) | apply bl_alloc | apply bl_drewN | apply bl_drew | (refine bl_step ?_ (by assumption)) | fail))⟩
end Go.Proofs.Ytnppbfjeibfamaa.Sf
