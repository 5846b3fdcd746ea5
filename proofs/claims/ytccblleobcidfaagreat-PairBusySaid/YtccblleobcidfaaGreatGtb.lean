/- Layer 19: asking: what the program's Get answers (printed by gen_gtb.py). -/
import Derived.Test.YtccblleobcidfaaGreatGt
namespace Go.Proofs.YtccblleobcidfaaGreat.Dv
open Go.RowKit Go.Proofs.YtccblleobcidfaaGreat.Kt Go.Proofs.YtccblleobcidfaaGreat.Lw Go.Proofs.YtccblleobcidfaaGreat.St Go.Proofs.YtccblleobcidfaaGreat.Nm Go.Proofs.YtccblleobcidfaaGreat.Es Go.Proofs.YtccblleobcidfaaGreat.By Go.Proofs.YtccblleobcidfaaGreat.En Go.Proofs.YtccblleobcidfaaGreat.Jr Go.Proofs.YtccblleobcidfaaGreat.Im Go.Proofs.YtccblleobcidfaaGreat.Sl Go.Proofs.YtccblleobcidfaaGreat.Gr Go.Proofs.YtccblleobcidfaaGreat.Ops Go.Proofs.YtccblleobcidfaaGreat.Ch Go.Proofs.YtccblleobcidfaaGreat.Fl Go.Proofs.YtccblleobcidfaaGreat.Pl
set_option linter.unusedVariables false
set_option linter.unusedSimpArgs false
attribute [local irreducible] gotB goodB Cr.crcB nQ nS nZ nM placeB wholeB devMay
set_option maxRecDepth 100000 in
set_option maxHeartbeats 12800000 in
theorem get_f (f : ByteArray) (d : DS) (A : Option Addr) (c n : Nat) (w : World) (h : f.size ≤ 9223372036854775807) (hl : Row w A d.ops) (hn : d.ops.length = n) (hb : bothB f d = false) : Calls Tryz.prog 71 #[.string f, (.agg #[.int .i64 d.st, .int .i64 d.su, .int .i64 d.nx, .int .i64 d.go, .int .i64 d.sl, .slice A n c])] w (Tells w (DS.zero) 1900) := by
  obtain ⟨s, st, nx, g, sl, xs⟩ := d
  simp only at hl hn ⊢
  have HB := Below.refl w.heap.size w
  have K0 := Blk.new w #[.int .i64 s, .int .i64 st, .int .i64 nx, .int .i64 g, .int .i64 sl, .slice A n c] 28
  have K1 := fun cs0 => Blk.new1 w (.cells cs0 28) #[.int .i64 0, .int .i64 0, .int .i64 0, .int .i64 0, .int .i64 0, .slice none 0 0] 28
  have K2 := fun cs0 cs1 => Blk.new2 w (.cells cs0 28) (.cells cs1 28) #[.int .i64 0, .int .i64 0, .int .i64 0] 111
  have mm := Lib.hid (fun W : World => may_c f W h)
  have dm := Lib.hid (fun W (h : Below w.heap.size w W) => devMay_c s st nx g sl A c n xs W (hl.below h) hn)
  by_cases hf : f.size = 768
  · rw [decide_eq_true hf] at mm
    rw [show devMay s st nx g sl xs = false from both_not hb hf] at dm
    clear hb hf hl
    go_enter Tryz.func71, Tryz.ntmps71
    go_wp2_with (first | (go_at_call 76; with_reducible refine (mm.out _).mono ?_; rintro e w' ⟨rfl, rfl⟩) | (go_at_call 104; with_reducible refine (dm.out _ zq1).mono ?_; rintro e w' ⟨rfl, hb⟩; have HB := bl_step (w := w) zq0 hb; have hzB := HB.size; have K0 := Blk.on zq3 zq5 hb; (try clear cK0_0 cK0_1 cK0_2 cK0_3 cK0_4 cK0_5 fK0 lK0 nK0 mK0); obtain ⟨cK0_0, cK0_1, cK0_2, cK0_3, cK0_4, cK0_5, fK0, lK0, nK0, mK0⟩ := Blk.all6 K0; have K1 := Blk.on zq6 zq12 hb; (try clear cK1_0 cK1_1 cK1_2 cK1_3 cK1_4 cK1_5 fK1 lK1 nK1 mK1); obtain ⟨cK1_0, cK1_1, cK1_2, cK1_3, cK1_4, cK1_5, fK1, lK1, nK1, mK1⟩ := Blk.all6 K1; have K2 := Blk.on zq15 zq18 hb; (try clear cK2_0 cK2_1 cK2_2 fK2 lK2 nK2 mK2); obtain ⟨cK2_0, cK2_1, cK2_2, fK2, lK2, nK2, mK2⟩ := Blk.all3 K2) | fail)
    exact bodyPost_ret (v := .tuple #[.agg #[.int .i64 0, .int .i64 0, .int .i64 0, .int .i64 0, .int .i64 0, .slice none 0 0], .agg #[.int .i64 0, .int .i64 0, .int .i64 0], .int .i64 1900]) (by simp [results, Tryz.results71, go_sem, *]) rfl ⟨⟨none, 0, 0, rfl, rfl, Own.nil⟩, zq1⟩
  · rw [decide_eq_false hf] at mm
    clear hb hf hl
    go_enter Tryz.func71, Tryz.ntmps71
    go_wp2_with (first | (go_at_call 76; with_reducible refine (mm.out _).mono ?_; rintro e w' ⟨rfl, rfl⟩) | fail)
    exact bodyPost_ret (v := .tuple #[.agg #[.int .i64 0, .int .i64 0, .int .i64 0, .int .i64 0, .int .i64 0, .slice none 0 0], .agg #[.int .i64 0, .int .i64 0, .int .i64 0], .int .i64 1900]) (by simp [results, Tryz.results71, go_sem, *]) rfl ⟨⟨none, 0, 0, rfl, rfl, Own.nil⟩, zq1⟩
set_option maxRecDepth 100000 in
set_option maxHeartbeats 12800000 in
theorem get_1n (f : ByteArray) (d : DS) (A : Option Addr) (c n : Nat) (w : World) (h : f.size ≤ 9223372036854775807) (hl : Row w A d.ops) (hn : d.ops.length = n) (hb : bothB f d = true) (h1 : d.st = 1) (hx : d.ops = []) : Calls Tryz.prog 71 #[.string f, (.agg #[.int .i64 d.st, .int .i64 d.su, .int .i64 d.nx, .int .i64 d.go, .int .i64 d.sl, .slice A n c])] w (Tells w (⟨3, d.su, d.nx, d.go, d.sl, d.ops⟩) 0) := by
  obtain ⟨s, st, nx, g, sl, xs⟩ := d
  simp only at hl hn ⊢
  have HB := Below.refl w.heap.size w
  have K0 := Blk.new w #[.int .i64 s, .int .i64 st, .int .i64 nx, .int .i64 g, .int .i64 sl, .slice A n c] 28
  have K1 := fun cs0 => Blk.new1 w (.cells cs0 28) #[.int .i64 0, .int .i64 0, .int .i64 0, .int .i64 0, .int .i64 0, .slice none 0 0] 28
  have K2 := fun cs0 cs1 => Blk.new2 w (.cells cs0 28) (.cells cs1 28) #[.int .i64 0, .int .i64 0, .int .i64 0] 111
  obtain ⟨hf, hmay⟩ := both_parts hb
  have mm := Lib.hid (fun W : World => may_c f W h)
  rw [decide_eq_true hf] at mm
  have dm := Lib.hid (fun W (h : Below w.heap.size w W) => devMay_c s st nx g sl A c n xs W (hl.below h) hn)
  rw [show devMay s st nx g sl xs = true from hmay] at dm
  have hlen := may_len hmay
  simp only at hlen
  have cp := Lib.hid (fun W (h : Below w.heap.size w W) => dcopy_c ⟨s, st, nx, g, sl, xs⟩ A c n W (hl.below h) hn (by omega))
  simp only at cp
  have HN := Lib.hid hn
  rw [hn] at hlen
  clear hl hb hmay hn
  simp only at h1 hx
  subst h1
  have hn0 : n = 0 := by have := HN.out; rw [hx] at this; simpa using this.symm
  subst hn0
  clear hx
  go_enter Tryz.func71, Tryz.ntmps71
  go_upto_region 11 with (first | (go_at_call 76; with_reducible refine (mm.out _).mono ?_; rintro e w' ⟨rfl, rfl⟩) | (go_at_call 104; with_reducible refine (dm.out _ zq1).mono ?_; rintro e w' ⟨rfl, hb⟩; have HB := bl_step (w := w) zq0 hb; have hzB := HB.size; have K0 := Blk.on zq3 zq5 hb; (try clear cK0_0 cK0_1 cK0_2 cK0_3 cK0_4 cK0_5 fK0 lK0 nK0 mK0); obtain ⟨cK0_0, cK0_1, cK0_2, cK0_3, cK0_4, cK0_5, fK0, lK0, nK0, mK0⟩ := Blk.all6 K0; have K1 := Blk.on zq6 zq12 hb; (try clear cK1_0 cK1_1 cK1_2 cK1_3 cK1_4 cK1_5 fK1 lK1 nK1 mK1); obtain ⟨cK1_0, cK1_1, cK1_2, cK1_3, cK1_4, cK1_5, fK1, lK1, nK1, mK1⟩ := Blk.all6 K1; have K2 := Blk.on zq15 zq18 hb; (try clear cK2_0 cK2_1 cK2_2 fK2 lK2 nK2 mK2); obtain ⟨cK2_0, cK2_1, cK2_2, fK2, lK2, nK2, mK2⟩ := Blk.all3 K2) | (go_at_call 85; (with_reducible refine (cp.out _ zq1).mono ?_); rintro e w1 ⟨⟨A', c', rfl, HO⟩, hb⟩; have HO := HO.mono (base' := w.heap.size + 3) (by omega); have hg1 : w.heap.size + 3 ≤ w1.heap.size := (by have := hb.size; omega); have HB := bl_step (w := w) zq0 hb; have hzB := HB.size; have K0 := Blk.on zq3 zq5 hb; (try clear cK0_0 cK0_1 cK0_2 cK0_3 cK0_4 cK0_5 fK0 lK0 nK0 mK0); obtain ⟨cK0_0, cK0_1, cK0_2, cK0_3, cK0_4, cK0_5, fK0, lK0, nK0, mK0⟩ := Blk.all6 K0; have K1 := Blk.on zq6 zq12 hb; (try clear cK1_0 cK1_1 cK1_2 cK1_3 cK1_4 cK1_5 fK1 lK1 nK1 mK1); obtain ⟨cK1_0, cK1_1, cK1_2, cK1_3, cK1_4, cK1_5, fK1, lK1, nK1, mK1⟩ := Blk.all6 K1; have K2 := Blk.on zq15 zq18 hb; (try clear cK2_0 cK2_1 cK2_2 fK2 lK2 nK2 mK2); obtain ⟨cK2_0, cK2_1, cK2_2, fK2, lK2, nK2, mK2⟩ := Blk.all3 K2; have K3 := fun s : Int => Blk.new w1 #[.int .i64 s, .int .i64 st, .int .i64 nx, .int .i64 g, .int .i64 sl, .slice A' 0 c'] 28) | fail)
  have HBz : Below w.heap.size w (w1.alloc (.cells #[.int .i64 3, .int .i64 st, .int .i64 nx, .int .i64 g, .int .i64 sl, .slice A' 0 c'] 28)) := zq1
  have L1 : Blk (w1.alloc (.cells #[.int .i64 3, .int .i64 st, .int .i64 nx, .int .i64 g, .int .i64 sl, .slice A' 0 c'] 28)) (w.heap.size + 1) #[.int .i64 0, .int .i64 0, .int .i64 0, .int .i64 0, .int .i64 0, .slice none 0 0] 28 := zq19
  have L2 : Blk (w1.alloc (.cells #[.int .i64 3, .int .i64 st, .int .i64 nx, .int .i64 g, .int .i64 sl, .slice A' 0 c'] 28)) (w.heap.size + 2) #[.int .i64 0, .int .i64 0, .int .i64 0] 111 := zq47
  have L3 : Blk (w1.alloc (.cells #[.int .i64 3, .int .i64 st, .int .i64 nx, .int .i64 g, .int .i64 sl, .slice A' 0 c'] 28)) w1.heap.size #[.int .i64 3, .int .i64 st, .int .i64 nx, .int .i64 g, .int .i64 sl, .slice A' 0 c'] 28 := zq41
  have HOz : Own (w1.alloc (.cells #[.int .i64 3, .int .i64 st, .int .i64 nx, .int .i64 g, .int .i64 sl, .slice A' 0 c'] 28)) (w.heap.size + 3) A' xs := HO.below zq1
  clear HO HB hb hzB K1 K2 K3 cK1_0 cK1_1 cK1_2 cK1_3 cK1_4 cK1_5 cK2_0 cK2_1 cK2_2 fK1 lK1 nK1 mK1 fK2 lK2 nK2 mK2 K0 cK0_0 cK0_1 cK0_2 cK0_3 cK0_4 cK0_5 fK0 lK0 nK0 mK0 mm dm cp
  generalize w1.alloc (.cells #[.int .i64 3, .int .i64 st, .int .i64 nx, .int .i64 g, .int .i64 sl, .slice A' 0 c'] 28) = wz at *
  generalize w1.heap.size = g3 at *
  have HB := HBz
  have K1 := L1
  have K2 := L2
  have K3 := L3
  obtain ⟨cK1_0, cK1_1, cK1_2, cK1_3, cK1_4, cK1_5, fK1, lK1, nK1, mK1⟩ := Blk.all6 K1
  obtain ⟨cK2_0, cK2_1, cK2_2, fK2, lK2, nK2, mK2⟩ := Blk.all3 K2
  obtain ⟨cK3_0, cK3_1, cK3_2, cK3_3, cK3_4, cK3_5, fK3, lK3, nK3, mK3⟩ := Blk.all6 K3
  clear HBz L1 L2 L3
  have z1 : g3 ≠ w.heap.size + 1 := by omega
  have z2 : g3 ≠ w.heap.size + 2 := by omega
  have z3 : w.heap.size + 1 ≠ g3 := by omega
  have z4 : w.heap.size + 2 ≠ g3 := by omega
  have HC : wz.cell? ⟨g3, 0, none⟩ = some (.int .i64 3) ∧ wz.cell? ⟨g3, 1, none⟩ = some (.int .i64 st) ∧ wz.cell? ⟨g3, 2, none⟩ = some (.int .i64 nx) ∧ wz.cell? ⟨g3, 3, none⟩ = some (.int .i64 g) ∧ wz.cell? ⟨g3, 4, none⟩ = some (.int .i64 sl) ∧ wz.cell? ⟨g3, 5, none⟩ = some (.slice A' 0 c') := ⟨cK3_0, cK3_1, cK3_2, cK3_3, cK3_4, cK3_5⟩
  go_region_held3 (fun W => W.cell? ⟨g3, 0, none⟩ = some (.int .i64 3) ∧ W.cell? ⟨g3, 1, none⟩ = some (.int .i64 st) ∧ W.cell? ⟨g3, 2, none⟩ = some (.int .i64 nx) ∧ W.cell? ⟨g3, 3, none⟩ = some (.int .i64 g) ∧ W.cell? ⟨g3, 4, none⟩ = some (.int .i64 sl) ∧ W.cell? ⟨g3, 5, none⟩ = some (.slice A' 0 c')) (first | ((repeat (with_reducible first | exact HC | (refine drew6 ?_) | (refine far6 rfl (by assumption) ?_) | fail)); done) | fail) (first | (refine min_step rfl _ _ _ rfl .i64 .i64 _ _ rfl rfl ?_) | fail)
  all_goals (go_wp2_with fail; refine body_gen (g1 := w.heap.size + 1) (cs1 := #[.int .i64 3, .int .i64 st, .int .i64 nx, .int .i64 g, .int .i64 sl, .slice A' 0 c']) (t1 := 28) (g2 := w.heap.size + 2) (cs2 := #[.int .i64 st, .int .i64 (min (0 : Int) 255), .int .i64 3]) (t2 := 111) (b := w.heap.size + 3) (A := A') (xs := xs) (w := w) zq19 zq49 zq52 zq1 ?_; intro wf L1 L2 HOf HBf; obtain ⟨e0, e1, e2, e3, e4, e5, _⟩ := Blk.all6 L1; obtain ⟨e6, e7, e8, _⟩ := Blk.all3 L2; exact bodyPost_ret (v := .tuple #[.agg #[.int .i64 3, .int .i64 st, .int .i64 nx, .int .i64 g, .int .i64 sl, .slice A' 0 c'], .agg #[.int .i64 st, .int .i64 (min (0 : Int) 255), .int .i64 3], .int .i64 0]) (by simp [results, Tryz.results71, go_sem, e0, e1, e2, e3, e4, e5, e6, e7, e8]) rfl ⟨⟨_, _, _, rfl, HN.out, HOf.mono (by omega)⟩, HBf⟩)
set_option maxRecDepth 100000 in
set_option maxHeartbeats 12800000 in
theorem get_1s (f : ByteArray) (d : DS) (A : Option Addr) (c n : Nat) (w : World) (h : f.size ≤ 9223372036854775807) (hl : Row w A d.ops) (hn : d.ops.length = n) (hb : bothB f d = true) (h1 : d.st = 1) (hx : d.ops ≠ []) : Calls Tryz.prog 71 #[.string f, (.agg #[.int .i64 d.st, .int .i64 d.su, .int .i64 d.nx, .int .i64 d.go, .int .i64 d.sl, .slice A n c])] w (Tells w (⟨2, d.su, d.nx, d.go, d.sl, d.ops⟩) 0) := by
  obtain ⟨s, st, nx, g, sl, xs⟩ := d
  simp only at hl hn ⊢
  have HB := Below.refl w.heap.size w
  have K0 := Blk.new w #[.int .i64 s, .int .i64 st, .int .i64 nx, .int .i64 g, .int .i64 sl, .slice A n c] 28
  have K1 := fun cs0 => Blk.new1 w (.cells cs0 28) #[.int .i64 0, .int .i64 0, .int .i64 0, .int .i64 0, .int .i64 0, .slice none 0 0] 28
  have K2 := fun cs0 cs1 => Blk.new2 w (.cells cs0 28) (.cells cs1 28) #[.int .i64 0, .int .i64 0, .int .i64 0] 111
  obtain ⟨hf, hmay⟩ := both_parts hb
  have mm := Lib.hid (fun W : World => may_c f W h)
  rw [decide_eq_true hf] at mm
  have dm := Lib.hid (fun W (h : Below w.heap.size w W) => devMay_c s st nx g sl A c n xs W (hl.below h) hn)
  rw [show devMay s st nx g sl xs = true from hmay] at dm
  have hlen := may_len hmay
  simp only at hlen
  have cp := Lib.hid (fun W (h : Below w.heap.size w W) => dcopy_c ⟨s, st, nx, g, sl, xs⟩ A c n W (hl.below h) hn (by omega))
  simp only at cp
  have HN := Lib.hid hn
  rw [hn] at hlen
  clear hl hb hmay hn
  simp only at h1 hx
  subst h1
  have hn0 : 0 < n := by
    have := HN.out
    have := List.length_pos_iff.2 hx
    omega
  clear hx
  go_enter Tryz.func71, Tryz.ntmps71
  go_upto_region 11 with (first | (go_at_call 76; with_reducible refine (mm.out _).mono ?_; rintro e w' ⟨rfl, rfl⟩) | (go_at_call 104; with_reducible refine (dm.out _ zq1).mono ?_; rintro e w' ⟨rfl, hb⟩; have HB := bl_step (w := w) zq0 hb; have hzB := HB.size; have K0 := Blk.on zq3 zq5 hb; (try clear cK0_0 cK0_1 cK0_2 cK0_3 cK0_4 cK0_5 fK0 lK0 nK0 mK0); obtain ⟨cK0_0, cK0_1, cK0_2, cK0_3, cK0_4, cK0_5, fK0, lK0, nK0, mK0⟩ := Blk.all6 K0; have K1 := Blk.on zq6 zq12 hb; (try clear cK1_0 cK1_1 cK1_2 cK1_3 cK1_4 cK1_5 fK1 lK1 nK1 mK1); obtain ⟨cK1_0, cK1_1, cK1_2, cK1_3, cK1_4, cK1_5, fK1, lK1, nK1, mK1⟩ := Blk.all6 K1; have K2 := Blk.on zq15 zq18 hb; (try clear cK2_0 cK2_1 cK2_2 fK2 lK2 nK2 mK2); obtain ⟨cK2_0, cK2_1, cK2_2, fK2, lK2, nK2, mK2⟩ := Blk.all3 K2) | (go_at_call 85; (with_reducible refine (cp.out _ zq1).mono ?_); rintro e w1 ⟨⟨A', c', rfl, HO⟩, hb⟩; have HO := HO.mono (base' := w.heap.size + 3) (by omega); have hg1 : w.heap.size + 3 ≤ w1.heap.size := (by have := hb.size; omega); have HB := bl_step (w := w) zq0 hb; have hzB := HB.size; have K0 := Blk.on zq3 zq5 hb; (try clear cK0_0 cK0_1 cK0_2 cK0_3 cK0_4 cK0_5 fK0 lK0 nK0 mK0); obtain ⟨cK0_0, cK0_1, cK0_2, cK0_3, cK0_4, cK0_5, fK0, lK0, nK0, mK0⟩ := Blk.all6 K0; have K1 := Blk.on zq6 zq12 hb; (try clear cK1_0 cK1_1 cK1_2 cK1_3 cK1_4 cK1_5 fK1 lK1 nK1 mK1); obtain ⟨cK1_0, cK1_1, cK1_2, cK1_3, cK1_4, cK1_5, fK1, lK1, nK1, mK1⟩ := Blk.all6 K1; have K2 := Blk.on zq15 zq18 hb; (try clear cK2_0 cK2_1 cK2_2 fK2 lK2 nK2 mK2); obtain ⟨cK2_0, cK2_1, cK2_2, fK2, lK2, nK2, mK2⟩ := Blk.all3 K2; have K3 := fun s : Int => Blk.new w1 #[.int .i64 s, .int .i64 st, .int .i64 nx, .int .i64 g, .int .i64 sl, .slice A' n c'] 28) | fail)
  have HBz : Below w.heap.size w (w1.alloc (.cells #[.int .i64 2, .int .i64 st, .int .i64 nx, .int .i64 g, .int .i64 sl, .slice A' n c'] 28)) := zq1
  have L1 : Blk (w1.alloc (.cells #[.int .i64 2, .int .i64 st, .int .i64 nx, .int .i64 g, .int .i64 sl, .slice A' n c'] 28)) (w.heap.size + 1) #[.int .i64 0, .int .i64 0, .int .i64 0, .int .i64 0, .int .i64 0, .slice none 0 0] 28 := zq19
  have L2 : Blk (w1.alloc (.cells #[.int .i64 2, .int .i64 st, .int .i64 nx, .int .i64 g, .int .i64 sl, .slice A' n c'] 28)) (w.heap.size + 2) #[.int .i64 0, .int .i64 0, .int .i64 0] 111 := zq47
  have L3 : Blk (w1.alloc (.cells #[.int .i64 2, .int .i64 st, .int .i64 nx, .int .i64 g, .int .i64 sl, .slice A' n c'] 28)) w1.heap.size #[.int .i64 2, .int .i64 st, .int .i64 nx, .int .i64 g, .int .i64 sl, .slice A' n c'] 28 := zq41
  have HOz : Own (w1.alloc (.cells #[.int .i64 2, .int .i64 st, .int .i64 nx, .int .i64 g, .int .i64 sl, .slice A' n c'] 28)) (w.heap.size + 3) A' xs := HO.below zq1
  clear HO HB hb hzB K1 K2 K3 cK1_0 cK1_1 cK1_2 cK1_3 cK1_4 cK1_5 cK2_0 cK2_1 cK2_2 fK1 lK1 nK1 mK1 fK2 lK2 nK2 mK2 K0 cK0_0 cK0_1 cK0_2 cK0_3 cK0_4 cK0_5 fK0 lK0 nK0 mK0 mm dm cp
  generalize w1.alloc (.cells #[.int .i64 2, .int .i64 st, .int .i64 nx, .int .i64 g, .int .i64 sl, .slice A' n c'] 28) = wz at *
  generalize w1.heap.size = g3 at *
  have HB := HBz
  have K1 := L1
  have K2 := L2
  have K3 := L3
  obtain ⟨cK1_0, cK1_1, cK1_2, cK1_3, cK1_4, cK1_5, fK1, lK1, nK1, mK1⟩ := Blk.all6 K1
  obtain ⟨cK2_0, cK2_1, cK2_2, fK2, lK2, nK2, mK2⟩ := Blk.all3 K2
  obtain ⟨cK3_0, cK3_1, cK3_2, cK3_3, cK3_4, cK3_5, fK3, lK3, nK3, mK3⟩ := Blk.all6 K3
  clear HBz L1 L2 L3
  have z1 : g3 ≠ w.heap.size + 1 := by omega
  have z2 : g3 ≠ w.heap.size + 2 := by omega
  have z3 : w.heap.size + 1 ≠ g3 := by omega
  have z4 : w.heap.size + 2 ≠ g3 := by omega
  have HC : wz.cell? ⟨g3, 0, none⟩ = some (.int .i64 2) ∧ wz.cell? ⟨g3, 1, none⟩ = some (.int .i64 st) ∧ wz.cell? ⟨g3, 2, none⟩ = some (.int .i64 nx) ∧ wz.cell? ⟨g3, 3, none⟩ = some (.int .i64 g) ∧ wz.cell? ⟨g3, 4, none⟩ = some (.int .i64 sl) ∧ wz.cell? ⟨g3, 5, none⟩ = some (.slice A' n c') := ⟨cK3_0, cK3_1, cK3_2, cK3_3, cK3_4, cK3_5⟩
  go_region_held3 (fun W => W.cell? ⟨g3, 0, none⟩ = some (.int .i64 2) ∧ W.cell? ⟨g3, 1, none⟩ = some (.int .i64 st) ∧ W.cell? ⟨g3, 2, none⟩ = some (.int .i64 nx) ∧ W.cell? ⟨g3, 3, none⟩ = some (.int .i64 g) ∧ W.cell? ⟨g3, 4, none⟩ = some (.int .i64 sl) ∧ W.cell? ⟨g3, 5, none⟩ = some (.slice A' n c')) (first | ((repeat (with_reducible first | exact HC | (refine drew6 ?_) | (refine far6 rfl (by assumption) ?_) | fail)); done) | fail) (first | (refine min_step rfl _ _ _ rfl .i64 .i64 _ _ rfl rfl ?_) | fail)
  all_goals (go_wp2_with fail; refine body_gen (g1 := w.heap.size + 1) (cs1 := #[.int .i64 2, .int .i64 st, .int .i64 nx, .int .i64 g, .int .i64 sl, .slice A' n c']) (t1 := 28) (g2 := w.heap.size + 2) (cs2 := #[.int .i64 st, .int .i64 (min (n : Int) 255), .int .i64 2]) (t2 := 111) (b := w.heap.size + 3) (A := A') (xs := xs) (w := w) zq19 zq49 zq52 zq1 ?_; intro wf L1 L2 HOf HBf; obtain ⟨e0, e1, e2, e3, e4, e5, _⟩ := Blk.all6 L1; obtain ⟨e6, e7, e8, _⟩ := Blk.all3 L2; exact bodyPost_ret (v := .tuple #[.agg #[.int .i64 2, .int .i64 st, .int .i64 nx, .int .i64 g, .int .i64 sl, .slice A' n c'], .agg #[.int .i64 st, .int .i64 (min (n : Int) 255), .int .i64 2], .int .i64 0]) (by simp [results, Tryz.results71, go_sem, e0, e1, e2, e3, e4, e5, e6, e7, e8]) rfl ⟨⟨_, _, _, rfl, HN.out, HOf.mono (by omega)⟩, HBf⟩)
set_option maxRecDepth 100000 in
set_option maxHeartbeats 12800000 in
theorem get_z (f : ByteArray) (d : DS) (A : Option Addr) (c n : Nat) (w : World) (h : f.size ≤ 9223372036854775807) (hl : Row w A d.ops) (hn : d.ops.length = n) (hb : bothB f d = true) (h1 : ¬ d.st = 1) (h4 : ¬ d.st = 4) : Calls Tryz.prog 71 #[.string f, (.agg #[.int .i64 d.st, .int .i64 d.su, .int .i64 d.nx, .int .i64 d.go, .int .i64 d.sl, .slice A n c])] w (Tells w (d) 0) := by
  obtain ⟨s, st, nx, g, sl, xs⟩ := d
  simp only at hl hn ⊢
  have HB := Below.refl w.heap.size w
  have K0 := Blk.new w #[.int .i64 s, .int .i64 st, .int .i64 nx, .int .i64 g, .int .i64 sl, .slice A n c] 28
  have K1 := fun cs0 => Blk.new1 w (.cells cs0 28) #[.int .i64 0, .int .i64 0, .int .i64 0, .int .i64 0, .int .i64 0, .slice none 0 0] 28
  have K2 := fun cs0 cs1 => Blk.new2 w (.cells cs0 28) (.cells cs1 28) #[.int .i64 0, .int .i64 0, .int .i64 0] 111
  obtain ⟨hf, hmay⟩ := both_parts hb
  have mm := Lib.hid (fun W : World => may_c f W h)
  rw [decide_eq_true hf] at mm
  have dm := Lib.hid (fun W (h : Below w.heap.size w W) => devMay_c s st nx g sl A c n xs W (hl.below h) hn)
  rw [show devMay s st nx g sl xs = true from hmay] at dm
  have hlen := may_len hmay
  simp only at hlen
  have cp := Lib.hid (fun W (h : Below w.heap.size w W) => dcopy_c ⟨s, st, nx, g, sl, xs⟩ A c n W (hl.below h) hn (by omega))
  simp only at cp
  have HN := Lib.hid hn
  rw [hn] at hlen
  clear hl hb hmay hn
  simp only at h1 h4
  have h1 : (s == 1) = false := by simpa using h1
  have h4 : (s == 4) = false := by simpa using h4
  go_enter Tryz.func71, Tryz.ntmps71
  go_upto_region 11 with (first | (go_at_call 76; with_reducible refine (mm.out _).mono ?_; rintro e w' ⟨rfl, rfl⟩) | (go_at_call 104; with_reducible refine (dm.out _ zq1).mono ?_; rintro e w' ⟨rfl, hb⟩; have HB := bl_step (w := w) zq0 hb; have hzB := HB.size; have K0 := Blk.on zq3 zq5 hb; (try clear cK0_0 cK0_1 cK0_2 cK0_3 cK0_4 cK0_5 fK0 lK0 nK0 mK0); obtain ⟨cK0_0, cK0_1, cK0_2, cK0_3, cK0_4, cK0_5, fK0, lK0, nK0, mK0⟩ := Blk.all6 K0; have K1 := Blk.on zq6 zq12 hb; (try clear cK1_0 cK1_1 cK1_2 cK1_3 cK1_4 cK1_5 fK1 lK1 nK1 mK1); obtain ⟨cK1_0, cK1_1, cK1_2, cK1_3, cK1_4, cK1_5, fK1, lK1, nK1, mK1⟩ := Blk.all6 K1; have K2 := Blk.on zq15 zq18 hb; (try clear cK2_0 cK2_1 cK2_2 fK2 lK2 nK2 mK2); obtain ⟨cK2_0, cK2_1, cK2_2, fK2, lK2, nK2, mK2⟩ := Blk.all3 K2) | (go_at_call 85; (with_reducible refine (cp.out _ zq1).mono ?_); rintro e w1 ⟨⟨A', c', rfl, HO⟩, hb⟩; have HO := HO.mono (base' := w.heap.size + 3) (by omega); have hg1 : w.heap.size + 3 ≤ w1.heap.size := (by have := hb.size; omega); have HB := bl_step (w := w) zq0 hb; have hzB := HB.size; have K0 := Blk.on zq3 zq5 hb; (try clear cK0_0 cK0_1 cK0_2 cK0_3 cK0_4 cK0_5 fK0 lK0 nK0 mK0); obtain ⟨cK0_0, cK0_1, cK0_2, cK0_3, cK0_4, cK0_5, fK0, lK0, nK0, mK0⟩ := Blk.all6 K0; have K1 := Blk.on zq6 zq12 hb; (try clear cK1_0 cK1_1 cK1_2 cK1_3 cK1_4 cK1_5 fK1 lK1 nK1 mK1); obtain ⟨cK1_0, cK1_1, cK1_2, cK1_3, cK1_4, cK1_5, fK1, lK1, nK1, mK1⟩ := Blk.all6 K1; have K2 := Blk.on zq15 zq18 hb; (try clear cK2_0 cK2_1 cK2_2 fK2 lK2 nK2 mK2); obtain ⟨cK2_0, cK2_1, cK2_2, fK2, lK2, nK2, mK2⟩ := Blk.all3 K2; have K3 := fun s : Int => Blk.new w1 #[.int .i64 s, .int .i64 st, .int .i64 nx, .int .i64 g, .int .i64 sl, .slice A' n c'] 28) | fail)
  have HBz : Below w.heap.size w (w1.alloc (.cells #[.int .i64 s, .int .i64 st, .int .i64 nx, .int .i64 g, .int .i64 sl, .slice A' n c'] 28)) := zq1
  have L1 : Blk (w1.alloc (.cells #[.int .i64 s, .int .i64 st, .int .i64 nx, .int .i64 g, .int .i64 sl, .slice A' n c'] 28)) (w.heap.size + 1) #[.int .i64 0, .int .i64 0, .int .i64 0, .int .i64 0, .int .i64 0, .slice none 0 0] 28 := zq19
  have L2 : Blk (w1.alloc (.cells #[.int .i64 s, .int .i64 st, .int .i64 nx, .int .i64 g, .int .i64 sl, .slice A' n c'] 28)) (w.heap.size + 2) #[.int .i64 0, .int .i64 0, .int .i64 0] 111 := zq47
  have L3 : Blk (w1.alloc (.cells #[.int .i64 s, .int .i64 st, .int .i64 nx, .int .i64 g, .int .i64 sl, .slice A' n c'] 28)) w1.heap.size #[.int .i64 s, .int .i64 st, .int .i64 nx, .int .i64 g, .int .i64 sl, .slice A' n c'] 28 := zq41
  have HOz : Own (w1.alloc (.cells #[.int .i64 s, .int .i64 st, .int .i64 nx, .int .i64 g, .int .i64 sl, .slice A' n c'] 28)) (w.heap.size + 3) A' xs := HO.below zq1
  clear HO HB hb hzB K1 K2 K3 cK1_0 cK1_1 cK1_2 cK1_3 cK1_4 cK1_5 cK2_0 cK2_1 cK2_2 fK1 lK1 nK1 mK1 fK2 lK2 nK2 mK2 K0 cK0_0 cK0_1 cK0_2 cK0_3 cK0_4 cK0_5 fK0 lK0 nK0 mK0 mm dm cp
  generalize w1.alloc (.cells #[.int .i64 s, .int .i64 st, .int .i64 nx, .int .i64 g, .int .i64 sl, .slice A' n c'] 28) = wz at *
  generalize w1.heap.size = g3 at *
  have HB := HBz
  have K1 := L1
  have K2 := L2
  have K3 := L3
  obtain ⟨cK1_0, cK1_1, cK1_2, cK1_3, cK1_4, cK1_5, fK1, lK1, nK1, mK1⟩ := Blk.all6 K1
  obtain ⟨cK2_0, cK2_1, cK2_2, fK2, lK2, nK2, mK2⟩ := Blk.all3 K2
  obtain ⟨cK3_0, cK3_1, cK3_2, cK3_3, cK3_4, cK3_5, fK3, lK3, nK3, mK3⟩ := Blk.all6 K3
  clear HBz L1 L2 L3
  have z1 : g3 ≠ w.heap.size + 1 := by omega
  have z2 : g3 ≠ w.heap.size + 2 := by omega
  have z3 : w.heap.size + 1 ≠ g3 := by omega
  have z4 : w.heap.size + 2 ≠ g3 := by omega
  have HC : wz.cell? ⟨g3, 0, none⟩ = some (.int .i64 s) ∧ wz.cell? ⟨g3, 1, none⟩ = some (.int .i64 st) ∧ wz.cell? ⟨g3, 2, none⟩ = some (.int .i64 nx) ∧ wz.cell? ⟨g3, 3, none⟩ = some (.int .i64 g) ∧ wz.cell? ⟨g3, 4, none⟩ = some (.int .i64 sl) ∧ wz.cell? ⟨g3, 5, none⟩ = some (.slice A' n c') := ⟨cK3_0, cK3_1, cK3_2, cK3_3, cK3_4, cK3_5⟩
  go_region_held3 (fun W => W.cell? ⟨g3, 0, none⟩ = some (.int .i64 s) ∧ W.cell? ⟨g3, 1, none⟩ = some (.int .i64 st) ∧ W.cell? ⟨g3, 2, none⟩ = some (.int .i64 nx) ∧ W.cell? ⟨g3, 3, none⟩ = some (.int .i64 g) ∧ W.cell? ⟨g3, 4, none⟩ = some (.int .i64 sl) ∧ W.cell? ⟨g3, 5, none⟩ = some (.slice A' n c')) (first | ((repeat (with_reducible first | exact HC | (refine drew6 ?_) | (refine far6 rfl (by assumption) ?_) | fail)); done) | fail) (first | (refine min_step rfl _ _ _ rfl .i64 .i64 _ _ rfl rfl ?_) | fail)
  all_goals (go_wp2_with fail; refine body_gen (g1 := w.heap.size + 1) (cs1 := #[.int .i64 s, .int .i64 st, .int .i64 nx, .int .i64 g, .int .i64 sl, .slice A' n c']) (t1 := 28) (g2 := w.heap.size + 2) (cs2 := #[.int .i64 st, .int .i64 (min (n : Int) 255), .int .i64 s]) (t2 := 111) (b := w.heap.size + 3) (A := A') (xs := xs) (w := w) zq19 zq49 zq52 zq1 ?_; intro wf L1 L2 HOf HBf; obtain ⟨e0, e1, e2, e3, e4, e5, _⟩ := Blk.all6 L1; obtain ⟨e6, e7, e8, _⟩ := Blk.all3 L2; exact bodyPost_ret (v := .tuple #[.agg #[.int .i64 s, .int .i64 st, .int .i64 nx, .int .i64 g, .int .i64 sl, .slice A' n c'], .agg #[.int .i64 st, .int .i64 (min (n : Int) 255), .int .i64 s], .int .i64 0]) (by simp [results, Tryz.results71, go_sem, e0, e1, e2, e3, e4, e5, e6, e7, e8]) rfl ⟨⟨_, _, _, rfl, HN.out, HOf.mono (by omega)⟩, HBf⟩)
set_option maxRecDepth 100000 in
set_option maxHeartbeats 12800000 in
theorem get_4 (f : ByteArray) (d : DS) (A : Option Addr) (c n : Nat) (w : World) (h : f.size ≤ 9223372036854775807) (hl : Row w A d.ops) (hn : d.ops.length = n) (hb : bothB f d = true) (h4 : d.st = 4) : Calls Tryz.prog 71 #[.string f, (.agg #[.int .i64 d.st, .int .i64 d.su, .int .i64 d.nx, .int .i64 d.go, .int .i64 d.sl, .slice A n c])] w (Tells w (commitD f d) 0) := by
  obtain ⟨s, st, nx, g, sl, xs⟩ := d
  simp only at hl hn ⊢
  have HB := Below.refl w.heap.size w
  have K0 := Blk.new w #[.int .i64 s, .int .i64 st, .int .i64 nx, .int .i64 g, .int .i64 sl, .slice A n c] 28
  have K1 := fun cs0 => Blk.new1 w (.cells cs0 28) #[.int .i64 0, .int .i64 0, .int .i64 0, .int .i64 0, .int .i64 0, .slice none 0 0] 28
  have K2 := fun cs0 cs1 => Blk.new2 w (.cells cs0 28) (.cells cs1 28) #[.int .i64 0, .int .i64 0, .int .i64 0] 111
  obtain ⟨hf, hmay⟩ := both_parts hb
  have mm := Lib.hid (fun W : World => may_c f W h)
  rw [decide_eq_true hf] at mm
  have dm := Lib.hid (fun W (h : Below w.heap.size w W) => devMay_c s st nx g sl A c n xs W (hl.below h) hn)
  rw [show devMay s st nx g sl xs = true from hmay] at dm
  have hlen := may_len hmay
  simp only at hlen
  have cp := Lib.hid (fun W (h : Below w.heap.size w W) => dcopy_c ⟨s, st, nx, g, sl, xs⟩ A c n W (hl.below h) hn (by omega))
  simp only at cp
  have HN := Lib.hid hn
  rw [hn] at hlen
  clear hl hb hmay hn
  simp only at h4
  subst h4
  obtain ⟨Ds, Dst, Dnx, Dg, Dsl, Dxs, hD⟩ : ∃ a b c d e l, commitD f ⟨4, st, nx, g, sl, xs⟩ = ⟨a, b, c, d, e, l⟩ := ⟨_, _, _, _, _, _, rfl⟩
  have cm : Hid (∀ (W : World) (A' : Option Addr) (c' : Nat), Calls Tryz.prog 138 #[.string f, .agg #[.int .i64 4, .int .i64 st, .int .i64 nx, .int .i64 g, .int .i64 sl, .slice A' n c']] W fun e w' => (∃ A2 n2 c2, e = .returned (.agg #[.int .i64 Ds, .int .i64 Dst, .int .i64 Dnx, .int .i64 Dg, .int .i64 Dsl, .slice A2 n2 c2]) ∧ Dxs.length = n2 ∧ Own w' W.heap.size A2 Dxs) ∧ Below W.heap.size W w') := Lib.hid (fun W A' c' => by
    have h := commit_c f ⟨4, st, nx, g, sl, xs⟩ A' c' n W hf
    rw [hD] at h
    exact h)
  rw [hD]
  clear hD
  go_enter Tryz.func71, Tryz.ntmps71
  go_upto_region 11 with (first | (go_at_call 76; with_reducible refine (mm.out _).mono ?_; rintro e w' ⟨rfl, rfl⟩) | (go_at_call 104; with_reducible refine (dm.out _ zq1).mono ?_; rintro e w' ⟨rfl, hb⟩; have HB := bl_step (w := w) zq0 hb; have hzB := HB.size; have K0 := Blk.on zq3 zq5 hb; (try clear cK0_0 cK0_1 cK0_2 cK0_3 cK0_4 cK0_5 fK0 lK0 nK0 mK0); obtain ⟨cK0_0, cK0_1, cK0_2, cK0_3, cK0_4, cK0_5, fK0, lK0, nK0, mK0⟩ := Blk.all6 K0; have K1 := Blk.on zq6 zq12 hb; (try clear cK1_0 cK1_1 cK1_2 cK1_3 cK1_4 cK1_5 fK1 lK1 nK1 mK1); obtain ⟨cK1_0, cK1_1, cK1_2, cK1_3, cK1_4, cK1_5, fK1, lK1, nK1, mK1⟩ := Blk.all6 K1; have K2 := Blk.on zq15 zq18 hb; (try clear cK2_0 cK2_1 cK2_2 fK2 lK2 nK2 mK2); obtain ⟨cK2_0, cK2_1, cK2_2, fK2, lK2, nK2, mK2⟩ := Blk.all3 K2) | (go_at_call 85; (with_reducible refine (cp.out _ zq1).mono ?_); rintro e w1 ⟨⟨A', c', rfl, HO⟩, hb⟩; have HO := HO.mono (base' := w.heap.size + 3) (by omega); have hg1 : w.heap.size + 3 ≤ w1.heap.size := (by have := hb.size; omega); have HB := bl_step (w := w) zq0 hb; have hzB := HB.size; have K0 := Blk.on zq3 zq5 hb; (try clear cK0_0 cK0_1 cK0_2 cK0_3 cK0_4 cK0_5 fK0 lK0 nK0 mK0); obtain ⟨cK0_0, cK0_1, cK0_2, cK0_3, cK0_4, cK0_5, fK0, lK0, nK0, mK0⟩ := Blk.all6 K0; have K1 := Blk.on zq6 zq12 hb; (try clear cK1_0 cK1_1 cK1_2 cK1_3 cK1_4 cK1_5 fK1 lK1 nK1 mK1); obtain ⟨cK1_0, cK1_1, cK1_2, cK1_3, cK1_4, cK1_5, fK1, lK1, nK1, mK1⟩ := Blk.all6 K1; have K2 := Blk.on zq15 zq18 hb; (try clear cK2_0 cK2_1 cK2_2 fK2 lK2 nK2 mK2); obtain ⟨cK2_0, cK2_1, cK2_2, fK2, lK2, nK2, mK2⟩ := Blk.all3 K2; have K3 := Blk.new w1 #[.int .i64 4, .int .i64 st, .int .i64 nx, .int .i64 g, .int .i64 sl, .slice A' n c'] 28) | (go_at_call 138; (with_reducible refine (cm.out _ _ _).mono ?_); rintro e w2 ⟨⟨A2, n2, c2, rfl, hn2, HO2⟩, hb⟩; have HO2 := HO2.mono (base' := w1.heap.size + 1) (by simp); have hN2 := Lib.hid hn2; clear hn2; have HB := bl_step (w := w) zq0 hb; have hzB := HB.size; have K0 := Blk.on zq3 zq5 hb; (try clear cK0_0 cK0_1 cK0_2 cK0_3 cK0_4 cK0_5 fK0 lK0 nK0 mK0); obtain ⟨cK0_0, cK0_1, cK0_2, cK0_3, cK0_4, cK0_5, fK0, lK0, nK0, mK0⟩ := Blk.all6 K0; have K1 := Blk.on zq6 zq12 hb; (try clear cK1_0 cK1_1 cK1_2 cK1_3 cK1_4 cK1_5 fK1 lK1 nK1 mK1); obtain ⟨cK1_0, cK1_1, cK1_2, cK1_3, cK1_4, cK1_5, fK1, lK1, nK1, mK1⟩ := Blk.all6 K1; have K2 := Blk.on zq15 zq18 hb; (try clear cK2_0 cK2_1 cK2_2 fK2 lK2 nK2 mK2); obtain ⟨cK2_0, cK2_1, cK2_2, fK2, lK2, nK2, mK2⟩ := Blk.all3 K2; have K3 := Blk.on zq26 zq34 hb; (try clear cK3_0 cK3_1 cK3_2 cK3_3 cK3_4 cK3_5 fK3 lK3 nK3 mK3); obtain ⟨cK3_0, cK3_1, cK3_2, cK3_3, cK3_4, cK3_5, fK3, lK3, nK3, mK3⟩ := Blk.all6 K3) | fail)
  have HBz : Below w.heap.size w (((((((w2).setCell ⟨w1.heap.size, 0, none⟩ (.int .i64 Ds)).setCell ⟨w1.heap.size, 1, none⟩ (.int .i64 Dst)).setCell ⟨w1.heap.size, 2, none⟩ (.int .i64 Dnx)).setCell ⟨w1.heap.size, 3, none⟩ (.int .i64 Dg)).setCell ⟨w1.heap.size, 4, none⟩ (.int .i64 Dsl)).setCell ⟨w1.heap.size, 5, none⟩ (.slice A2 n2 c2)) := zq1
  have L1 : Blk (((((((w2).setCell ⟨w1.heap.size, 0, none⟩ (.int .i64 Ds)).setCell ⟨w1.heap.size, 1, none⟩ (.int .i64 Dst)).setCell ⟨w1.heap.size, 2, none⟩ (.int .i64 Dnx)).setCell ⟨w1.heap.size, 3, none⟩ (.int .i64 Dg)).setCell ⟨w1.heap.size, 4, none⟩ (.int .i64 Dsl)).setCell ⟨w1.heap.size, 5, none⟩ (.slice A2 n2 c2)) (w.heap.size + 1) #[.int .i64 0, .int .i64 0, .int .i64 0, .int .i64 0, .int .i64 0, .slice none 0 0] 28 := zq19
  have L2 : Blk (((((((w2).setCell ⟨w1.heap.size, 0, none⟩ (.int .i64 Ds)).setCell ⟨w1.heap.size, 1, none⟩ (.int .i64 Dst)).setCell ⟨w1.heap.size, 2, none⟩ (.int .i64 Dnx)).setCell ⟨w1.heap.size, 3, none⟩ (.int .i64 Dg)).setCell ⟨w1.heap.size, 4, none⟩ (.int .i64 Dsl)).setCell ⟨w1.heap.size, 5, none⟩ (.slice A2 n2 c2)) (w.heap.size + 2) #[.int .i64 0, .int .i64 0, .int .i64 0] 111 := zq47
  have L3 : Blk (((((((w2).setCell ⟨w1.heap.size, 0, none⟩ (.int .i64 Ds)).setCell ⟨w1.heap.size, 1, none⟩ (.int .i64 Dst)).setCell ⟨w1.heap.size, 2, none⟩ (.int .i64 Dnx)).setCell ⟨w1.heap.size, 3, none⟩ (.int .i64 Dg)).setCell ⟨w1.heap.size, 4, none⟩ (.int .i64 Dsl)).setCell ⟨w1.heap.size, 5, none⟩ (.slice A2 n2 c2)) w1.heap.size #[.int .i64 Ds, .int .i64 Dst, .int .i64 Dnx, .int .i64 Dg, .int .i64 Dsl, .slice A2 n2 c2] 28 := zq41
  have HOz : Own (((((((w2).setCell ⟨w1.heap.size, 0, none⟩ (.int .i64 Ds)).setCell ⟨w1.heap.size, 1, none⟩ (.int .i64 Dst)).setCell ⟨w1.heap.size, 2, none⟩ (.int .i64 Dnx)).setCell ⟨w1.heap.size, 3, none⟩ (.int .i64 Dg)).setCell ⟨w1.heap.size, 4, none⟩ (.int .i64 Dsl)).setCell ⟨w1.heap.size, 5, none⟩ (.slice A2 n2 c2)) (w.heap.size + 3) A2 Dxs := (by (refine Own.mono (base := w1.heap.size + 1) ?_ (by omega)); (repeat (with_reducible refine Own.set ?_ (by dsimp only; omega) _)); exact HO2)
  clear HO HB hb hzB K1 K2 K3 cK1_0 cK1_1 cK1_2 cK1_3 cK1_4 cK1_5 cK2_0 cK2_1 cK2_2 fK1 lK1 nK1 mK1 fK2 lK2 nK2 mK2 K0 cK0_0 cK0_1 cK0_2 cK0_3 cK0_4 cK0_5 fK0 lK0 nK0 mK0 mm dm cp cm HO2 cK3_0 cK3_1 cK3_2 cK3_3 cK3_4 cK3_5 fK3 lK3 nK3 mK3
  generalize ((((((w2).setCell ⟨w1.heap.size, 0, none⟩ (.int .i64 Ds)).setCell ⟨w1.heap.size, 1, none⟩ (.int .i64 Dst)).setCell ⟨w1.heap.size, 2, none⟩ (.int .i64 Dnx)).setCell ⟨w1.heap.size, 3, none⟩ (.int .i64 Dg)).setCell ⟨w1.heap.size, 4, none⟩ (.int .i64 Dsl)).setCell ⟨w1.heap.size, 5, none⟩ (.slice A2 n2 c2) = wz at *
  generalize w1.heap.size = g3 at *
  have HB := HBz
  have K1 := L1
  have K2 := L2
  have K3 := L3
  obtain ⟨cK1_0, cK1_1, cK1_2, cK1_3, cK1_4, cK1_5, fK1, lK1, nK1, mK1⟩ := Blk.all6 K1
  obtain ⟨cK2_0, cK2_1, cK2_2, fK2, lK2, nK2, mK2⟩ := Blk.all3 K2
  obtain ⟨cK3_0, cK3_1, cK3_2, cK3_3, cK3_4, cK3_5, fK3, lK3, nK3, mK3⟩ := Blk.all6 K3
  clear HBz L1 L2 L3
  have z1 : g3 ≠ w.heap.size + 1 := by omega
  have z2 : g3 ≠ w.heap.size + 2 := by omega
  have z3 : w.heap.size + 1 ≠ g3 := by omega
  have z4 : w.heap.size + 2 ≠ g3 := by omega
  have HC : wz.cell? ⟨g3, 0, none⟩ = some (.int .i64 Ds) ∧ wz.cell? ⟨g3, 1, none⟩ = some (.int .i64 Dst) ∧ wz.cell? ⟨g3, 2, none⟩ = some (.int .i64 Dnx) ∧ wz.cell? ⟨g3, 3, none⟩ = some (.int .i64 Dg) ∧ wz.cell? ⟨g3, 4, none⟩ = some (.int .i64 Dsl) ∧ wz.cell? ⟨g3, 5, none⟩ = some (.slice A2 n2 c2) := ⟨cK3_0, cK3_1, cK3_2, cK3_3, cK3_4, cK3_5⟩
  go_region_held3 (fun W => W.cell? ⟨g3, 0, none⟩ = some (.int .i64 Ds) ∧ W.cell? ⟨g3, 1, none⟩ = some (.int .i64 Dst) ∧ W.cell? ⟨g3, 2, none⟩ = some (.int .i64 Dnx) ∧ W.cell? ⟨g3, 3, none⟩ = some (.int .i64 Dg) ∧ W.cell? ⟨g3, 4, none⟩ = some (.int .i64 Dsl) ∧ W.cell? ⟨g3, 5, none⟩ = some (.slice A2 n2 c2)) (first | ((repeat (with_reducible first | exact HC | (refine drew6 ?_) | (refine far6 rfl (by assumption) ?_) | fail)); done) | fail) (first | (refine min_step rfl _ _ _ rfl .i64 .i64 _ _ rfl rfl ?_) | fail)
  all_goals (go_wp2_with fail; refine body_gen (g1 := w.heap.size + 1) (cs1 := #[.int .i64 Ds, .int .i64 Dst, .int .i64 Dnx, .int .i64 Dg, .int .i64 Dsl, .slice A2 n2 c2]) (t1 := 28) (g2 := w.heap.size + 2) (cs2 := #[.int .i64 Dst, .int .i64 (min (n2 : Int) 255), .int .i64 Ds]) (t2 := 111) (b := w.heap.size + 3) (A := A2) (xs := Dxs) (w := w) zq19 zq49 zq52 zq1 ?_; intro wf L1 L2 HOf HBf; obtain ⟨e0, e1, e2, e3, e4, e5, _⟩ := Blk.all6 L1; obtain ⟨e6, e7, e8, _⟩ := Blk.all3 L2; exact bodyPost_ret (v := .tuple #[.agg #[.int .i64 Ds, .int .i64 Dst, .int .i64 Dnx, .int .i64 Dg, .int .i64 Dsl, .slice A2 n2 c2], .agg #[.int .i64 Dst, .int .i64 (min (n2 : Int) 255), .int .i64 Ds], .int .i64 0]) (by simp [results, Tryz.results71, go_sem, e0, e1, e2, e3, e4, e5, e6, e7, e8]) rfl ⟨⟨_, _, _, rfl, hN2.out, HOf.mono (by omega)⟩, HBf⟩)
theorem get_c (f : ByteArray) (d : DS) (A : Option Addr) (c n : Nat) (w : World) (h : f.size ≤ 9223372036854775807) (hl : Row w A d.ops) (hn : d.ops.length = n) : Calls Tryz.prog 71 #[.string f, (.agg #[.int .i64 d.st, .int .i64 d.su, .int .i64 d.nx, .int .i64 d.go, .int .i64 d.sl, .slice A n c])] w (Tells w (getD f d) (getE f d)) := by
  cases hb : bothB f d
  · rw [(get_no hb).1, (get_no hb).2]
    exact get_f f d A c n w h hl hn hb
  · rw [(get_yes hb).1, (get_yes hb).2]
    unfold statD
    by_cases h1 : d.st = 1
    · rw [if_pos h1]
      by_cases hx : d.ops = []
      · rw [if_pos hx]
        exact get_1n f d A c n w h hl hn hb h1 hx
      · rw [if_neg hx]
        exact get_1s f d A c n w h hl hn hb h1 hx
    · rw [if_neg h1]
      by_cases h4 : d.st = 4
      · rw [if_pos h4]
        exact get_4 f d A c n w h hl hn hb h4
      · rw [if_neg h4]
        exact get_z f d A c n w h hl hn hb h1 h4
end Go.Proofs.YtccblleobcidfaaGreat.Dv
