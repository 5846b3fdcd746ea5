/- Layer 17: a block: what the program's Take answers (printed by gen_dld.py). -/
import Derived.Test.YtccblleobcidfaaGreatGd
import Derived.Test.YtccblleobcidfaaGreatGb
import Derived.Test.YtccblleobcidfaaGreatGt
import Derived.Test.YtccblleobcidfaaGreatDlb
import Derived.Test.YtccblleobcidfaaGreatGs
import Derived.Deep.AppendLies
import Derived.Deep.RegionLaw
namespace Go.Proofs.YtccblleobcidfaaGreat.Dv
open Go.RowKit Go.Proofs.YtccblleobcidfaaGreat.Kt Go.Proofs.YtccblleobcidfaaGreat.Lw Go.Proofs.YtccblleobcidfaaGreat.St Go.Proofs.YtccblleobcidfaaGreat.Nm Go.Proofs.YtccblleobcidfaaGreat.Es Go.Proofs.YtccblleobcidfaaGreat.By Go.Proofs.YtccblleobcidfaaGreat.En Go.Proofs.YtccblleobcidfaaGreat.Jr Go.Proofs.YtccblleobcidfaaGreat.Im Go.Proofs.YtccblleobcidfaaGreat.Sl Go.Proofs.YtccblleobcidfaaGreat.Gr Go.Proofs.YtccblleobcidfaaGreat.Ops Go.Proofs.YtccblleobcidfaaGreat.Ch Go.Proofs.YtccblleobcidfaaGreat.Fl Go.Proofs.YtccblleobcidfaaGreat.Pl
set_option linter.unusedVariables false
set_option linter.unusedSimpArgs false
attribute [local irreducible] gotB goodB Cr.crcB nQ nS nZ nM placeB wholeB devMay
set_option maxRecDepth 100000 in
set_option maxHeartbeats 12800000 in
theorem more_s (d : DS) (b : Int) (t : ByteArray) (A : Option Addr) (c n : Nat) (w : World) (hl : Row w A d.ops) (hn : d.ops.length = n) (hz : n ≤ 768) (n0 : 0 ≤ d.nx) (n1 : d.nx ≤ 16) (g0 : 0 ≤ d.go) (g1 : d.go ≤ 288) (s0 : 0 ≤ d.sl) (s1 : d.sl ≤ 1) (ht : t.size ≤ 32) (hb0 : b = d.nx - 1) :
    Calls Tryz.prog 144 #[(.agg #[.int .i64 d.st, .int .i64 d.su, .int .i64 d.nx, .int .i64 d.go, .int .i64 d.sl, .slice A n c]), .int .i64 b, .string t] w (Gives w (⟨1, d.su, d.nx, d.go, d.sl, d.ops⟩)) := by
  obtain ⟨s, st, nx, g, sl, xs⟩ := d
  simp only at hl hn n0 n1 g0 g1 s0 s1 ⊢
  have HB := Below.refl w.heap.size w
  have K0 := Blk.new w #[.int .i64 s, .int .i64 st, .int .i64 nx, .int .i64 g, .int .i64 sl, .slice A n c] 28
  have K1 := fun cs0 => Blk.new1 w (.cells cs0 28) #[.int .i64 0, .int .i64 0, .int .i64 0, .int .i64 0, .int .i64 0, .slice none 0 0] 28
  have cp := Lib.hid (fun W (h : Below w.heap.size w W) => dcopy_c ⟨s, st, nx, g, sl, xs⟩ A c n W (hl.below h) hn (by omega))
  simp only at cp
  have HN := Lib.hid hn
  clear hl hn
  simp only at hb0
  have hb2 : (b == nx - 1) = true := by simpa using hb0
  clear hb0
  go_enter Tryz.func144, Tryz.ntmps144
  go_wp2_with (first | (go_at_call 85; (with_reducible refine (cp.out _ zq1).mono ?_); rintro e w1 ⟨⟨A', c', rfl, HO⟩, hb⟩; have HO := HO.mono (base' := w.heap.size + 2) (by first | omega | (simp; done) | (simp; omega)); have hg1 : w.heap.size + 2 ≤ w1.heap.size := (by have := hb.size; first | omega | (simp at this; omega)); have HB := bl_step (w := w) zq0 hb; have hzB := HB.size; have K0 := Blk.on zq3 zq10 hb; (try clear eK0); have eK0 := Blk.ev K0; have K1 := Blk.on zq6 zq9 hb; (try clear eK1); have eK1 := Blk.ev K1; have K3 := fun cs => Blk.new w1 cs 28) | fail)
  refine body_gen1 (g1 := w.heap.size + 1) (cs1 := #[.int .i64 1, .int .i64 st, .int .i64 nx, .int .i64 g, .int .i64 sl, .slice A' n c']) (t1 := 28) (A := A') (xs := xs) (w := w) zq19 zq57 zq1 ?_; intro wf L1 HOf HBf; obtain ⟨e0, e1, e2, e3, e4, e5, _⟩ := Blk.all6 L1; exact bodyPost_ret (v := .agg #[.int .i64 1, .int .i64 st, .int .i64 nx, .int .i64 g, .int .i64 sl, .slice A' n c']) (by simp [results, Tryz.results144, go_sem, e0, e1, e2, e3, e4, e5]) rfl ⟨⟨A', n, c', rfl, HN.out, HOf⟩, HBf⟩
set_option maxRecDepth 100000 in
set_option maxHeartbeats 12800000 in
theorem more_b (d : DS) (b : Int) (t : ByteArray) (A : Option Addr) (c n : Nat) (w : World) (hl : Row w A d.ops) (hn : d.ops.length = n) (hz : n ≤ 768) (n0 : 0 ≤ d.nx) (n1 : d.nx ≤ 16) (g0 : 0 ≤ d.go) (g1 : d.go ≤ 288) (s0 : 0 ≤ d.sl) (s1 : d.sl ≤ 1) (ht : t.size ≤ 32) (hb0 : ¬ b = d.nx - 1) (hb1 : ¬ b = d.nx) :
    Calls Tryz.prog 144 #[(.agg #[.int .i64 d.st, .int .i64 d.su, .int .i64 d.nx, .int .i64 d.go, .int .i64 d.sl, .slice A n c]), .int .i64 b, .string t] w (Gives w (DS.fail 4)) := by
  obtain ⟨s, st, nx, g, sl, xs⟩ := d
  simp only at hl hn n0 n1 g0 g1 s0 s1 ⊢
  have HB := Below.refl w.heap.size w
  have K0 := Blk.new w #[.int .i64 s, .int .i64 st, .int .i64 nx, .int .i64 g, .int .i64 sl, .slice A n c] 28
  have K1 := fun cs0 => Blk.new1 w (.cells cs0 28) #[.int .i64 0, .int .i64 0, .int .i64 0, .int .i64 0, .int .i64 0, .slice none 0 0] 28
  have cp := Lib.hid (fun W (h : Below w.heap.size w W) => dcopy_c ⟨s, st, nx, g, sl, xs⟩ A c n W (hl.below h) hn (by omega))
  simp only at cp
  have HN := Lib.hid hn
  clear hl hn
  simp only at hb0 hb1
  have hb2 : (b == nx - 1) = false := by simpa using hb0
  have hb3 : (b != nx) = true := by simpa using hb1
  go_enter Tryz.func144, Tryz.ntmps144
  go_wp2_with (first | (go_at_call 85; (with_reducible refine (cp.out _ zq1).mono ?_); rintro e w1 ⟨⟨A', c', rfl, HO⟩, hb⟩; have HO := HO.mono (base' := w.heap.size + 2) (by first | omega | (simp; done) | (simp; omega)); have hg1 : w.heap.size + 2 ≤ w1.heap.size := (by have := hb.size; first | omega | (simp at this; omega)); have HB := bl_step (w := w) zq0 hb; have hzB := HB.size; have K0 := Blk.on zq3 zq10 hb; (try clear eK0); have eK0 := Blk.ev K0; have K1 := Blk.on zq6 zq9 hb; (try clear eK1); have eK1 := Blk.ev K1; have K3 := fun cs => Blk.new w1 cs 28) | (go_at_call 135; with_reducible refine (failed_c 4 _).mono ?_; rintro e w' ⟨rfl, hb⟩; have HB := bl_step (w := w) zq0 hb; have hzB := HB.size; have K0 := Blk.on zq3 zq10 hb; (try clear eK0); have eK0 := Blk.ev K0; have K1 := Blk.on zq6 zq9 hb; (try clear eK1); have eK1 := Blk.ev K1) | fail)
  refine body_gen1 (g1 := w.heap.size + 1) (cs1 := #[.int .i64 7, .int .i64 4, .int .i64 0, .int .i64 0, .int .i64 0, .slice none 0 0]) (t1 := 28) (A := none) (xs := []) (w := w) zq19 Own.nil zq1 ?_; intro wf L1 HOf HBf; obtain ⟨e0, e1, e2, e3, e4, e5, _⟩ := Blk.all6 L1; exact bodyPost_ret (v := .agg #[.int .i64 7, .int .i64 4, .int .i64 0, .int .i64 0, .int .i64 0, .slice none 0 0]) (by simp [results, Tryz.results144, go_sem, e0, e1, e2, e3, e4, e5]) rfl ⟨⟨none, 0, 0, rfl, rfl, HOf⟩, HBf⟩
set_option maxRecDepth 100000 in
set_option maxHeartbeats 12800000 in
theorem more_e (d : DS) (b : Int) (t : ByteArray) (A : Option Addr) (c n : Nat) (w : World) (hl : Row w A d.ops) (hn : d.ops.length = n) (hz : n ≤ 768) (n0 : 0 ≤ d.nx) (n1 : d.nx ≤ 16) (g0 : 0 ≤ d.go) (g1 : d.go ≤ 288) (s0 : 0 ≤ d.sl) (s1 : d.sl ≤ 1) (ht : t.size ≤ 32) (hb1 : b = d.nx) (ht0 : t.size = 0) :
    Calls Tryz.prog 144 #[(.agg #[.int .i64 d.st, .int .i64 d.su, .int .i64 d.nx, .int .i64 d.go, .int .i64 d.sl, .slice A n c]), .int .i64 b, .string t] w (Gives w (⟨4, d.su, d.nx, d.go, d.sl, d.ops⟩)) := by
  obtain ⟨s, st, nx, g, sl, xs⟩ := d
  simp only at hl hn n0 n1 g0 g1 s0 s1 ⊢
  have HB := Below.refl w.heap.size w
  have K0 := Blk.new w #[.int .i64 s, .int .i64 st, .int .i64 nx, .int .i64 g, .int .i64 sl, .slice A n c] 28
  have K1 := fun cs0 => Blk.new1 w (.cells cs0 28) #[.int .i64 0, .int .i64 0, .int .i64 0, .int .i64 0, .int .i64 0, .slice none 0 0] 28
  have cp := Lib.hid (fun W (h : Below w.heap.size w W) => dcopy_c ⟨s, st, nx, g, sl, xs⟩ A c n W (hl.below h) hn (by omega))
  simp only at cp
  have HN := Lib.hid hn
  clear hl hn
  simp only at hb1
  have hb2 : (b == nx - 1) = false := by simp; omega
  have hb3 : (b != nx) = false := by simpa using hb1
  clear hb1
  have t1 : t = ⟨#[]⟩ := size_nil ht0
  subst t1
  clear ht0
  go_enter Tryz.func144, Tryz.ntmps144
  go_wp2_with (first | (go_at_call 85; (with_reducible refine (cp.out _ zq1).mono ?_); rintro e w1 ⟨⟨A', c', rfl, HO⟩, hb⟩; have HO := HO.mono (base' := w.heap.size + 2) (by first | omega | (simp; done) | (simp; omega)); have hg1 : w.heap.size + 2 ≤ w1.heap.size := (by have := hb.size; first | omega | (simp at this; omega)); have HB := bl_step (w := w) zq0 hb; have hzB := HB.size; have K0 := Blk.on zq3 zq10 hb; (try clear eK0); have eK0 := Blk.ev K0; have K1 := Blk.on zq6 zq9 hb; (try clear eK1); have eK1 := Blk.ev K1; have K3 := fun cs => Blk.new w1 cs 28) | fail)
  refine body_gen1 (g1 := w.heap.size + 1) (cs1 := #[.int .i64 4, .int .i64 st, .int .i64 nx, .int .i64 g, .int .i64 sl, .slice A' n c']) (t1 := 28) (A := A') (xs := xs) (w := w) zq19 zq57 zq1 ?_; intro wf L1 HOf HBf; obtain ⟨e0, e1, e2, e3, e4, e5, _⟩ := Blk.all6 L1; exact bodyPost_ret (v := .agg #[.int .i64 4, .int .i64 st, .int .i64 nx, .int .i64 g, .int .i64 sl, .slice A' n c']) (by simp [results, Tryz.results144, go_sem, e0, e1, e2, e3, e4, e5]) rfl ⟨⟨A', n, c', rfl, HN.out, HOf⟩, HBf⟩
set_option maxRecDepth 100000 in
set_option maxHeartbeats 12800000 in
theorem more_x (d : DS) (b : Int) (t : ByteArray) (A : Option Addr) (c n : Nat) (w : World) (hl : Row w A d.ops) (hn : d.ops.length = n) (hz : n ≤ 768) (n0 : 0 ≤ d.nx) (n1 : d.nx ≤ 16) (g0 : 0 ≤ d.go) (g1 : d.go ≤ 288) (s0 : 0 ≤ d.sl) (s1 : d.sl ≤ 1) (ht : t.size ≤ 32) (hb1 : b = d.nx) (ht0 : ¬ t.size = 0) (hc : ¬ d.go % 32 = 0) :
    Calls Tryz.prog 144 #[(.agg #[.int .i64 d.st, .int .i64 d.su, .int .i64 d.nx, .int .i64 d.go, .int .i64 d.sl, .slice A n c]), .int .i64 b, .string t] w (Gives w (DS.fail 4)) := by
  obtain ⟨s, st, nx, g, sl, xs⟩ := d
  simp only at hl hn n0 n1 g0 g1 s0 s1 ⊢
  have HB := Below.refl w.heap.size w
  have K0 := Blk.new w #[.int .i64 s, .int .i64 st, .int .i64 nx, .int .i64 g, .int .i64 sl, .slice A n c] 28
  have K1 := fun cs0 => Blk.new1 w (.cells cs0 28) #[.int .i64 0, .int .i64 0, .int .i64 0, .int .i64 0, .int .i64 0, .slice none 0 0] 28
  have cp := Lib.hid (fun W (h : Below w.heap.size w W) => dcopy_c ⟨s, st, nx, g, sl, xs⟩ A c n W (hl.below h) hn (by omega))
  simp only at cp
  have HN := Lib.hid hn
  clear hl hn
  simp only at hb1
  have hb2 : (b == nx - 1) = false := by simp; omega
  have hb3 : (b != nx) = false := by simpa using hb1
  clear hb1
  have t1 : t.toList.isEmpty = false := size_some ht0
  have t2 : (t.toList == []) = false := by cases e : t.toList with | nil => rw [e] at t1; simp at t1 | cons => rfl
  have t3 : 0 < t.size := by omega
  simp only at hc
  have hc1 : (g % 32 != 0) = true := by simpa using hc
  go_enter Tryz.func144, Tryz.ntmps144
  go_wp2_with (first | (go_at_call 85; (with_reducible refine (cp.out _ zq1).mono ?_); rintro e w1 ⟨⟨A', c', rfl, HO⟩, hb⟩; have HO := HO.mono (base' := w.heap.size + 2) (by first | omega | (simp; done) | (simp; omega)); have hg1 : w.heap.size + 2 ≤ w1.heap.size := (by have := hb.size; first | omega | (simp at this; omega)); have HB := bl_step (w := w) zq0 hb; have hzB := HB.size; have K0 := Blk.on zq3 zq10 hb; (try clear eK0); have eK0 := Blk.ev K0; have K1 := Blk.on zq6 zq9 hb; (try clear eK1); have eK1 := Blk.ev K1; have K3 := fun cs => Blk.new w1 cs 28) | (go_at_call 135; with_reducible refine (failed_c 4 _).mono ?_; rintro e w' ⟨rfl, hb⟩; have HB := bl_step (w := w) zq0 hb; have hzB := HB.size; have K0 := Blk.on zq3 zq10 hb; (try clear eK0); have eK0 := Blk.ev K0; have K1 := Blk.on zq6 zq9 hb; (try clear eK1); have eK1 := Blk.ev K1) | fail)
  refine body_gen1 (g1 := w.heap.size + 1) (cs1 := #[.int .i64 7, .int .i64 4, .int .i64 0, .int .i64 0, .int .i64 0, .slice none 0 0]) (t1 := 28) (A := none) (xs := []) (w := w) zq19 Own.nil zq1 ?_; intro wf L1 HOf HBf; obtain ⟨e0, e1, e2, e3, e4, e5, _⟩ := Blk.all6 L1; exact bodyPost_ret (v := .agg #[.int .i64 7, .int .i64 4, .int .i64 0, .int .i64 0, .int .i64 0, .slice none 0 0]) (by simp [results, Tryz.results144, go_sem, e0, e1, e2, e3, e4, e5]) rfl ⟨⟨none, 0, 0, rfl, rfl, HOf⟩, HBf⟩
set_option maxRecDepth 100000 in
set_option maxHeartbeats 12800000 in
theorem more_y (d : DS) (b : Int) (t : ByteArray) (A : Option Addr) (c n : Nat) (w : World) (hl : Row w A d.ops) (hn : d.ops.length = n) (hz : n ≤ 768) (n0 : 0 ≤ d.nx) (n1 : d.nx ≤ 16) (g0 : 0 ≤ d.go) (g1 : d.go ≤ 288) (s0 : 0 ≤ d.sl) (s1 : d.sl ≤ 1) (ht : t.size ≤ 32) (hb1 : b = d.nx) (ht0 : ¬ t.size = 0) (hc0 : d.go % 32 = 0) (hc : 288 < d.go + (t.size : Int)) :
    Calls Tryz.prog 144 #[(.agg #[.int .i64 d.st, .int .i64 d.su, .int .i64 d.nx, .int .i64 d.go, .int .i64 d.sl, .slice A n c]), .int .i64 b, .string t] w (Gives w (DS.fail 4)) := by
  obtain ⟨s, st, nx, g, sl, xs⟩ := d
  simp only at hl hn n0 n1 g0 g1 s0 s1 ⊢
  have HB := Below.refl w.heap.size w
  have K0 := Blk.new w #[.int .i64 s, .int .i64 st, .int .i64 nx, .int .i64 g, .int .i64 sl, .slice A n c] 28
  have K1 := fun cs0 => Blk.new1 w (.cells cs0 28) #[.int .i64 0, .int .i64 0, .int .i64 0, .int .i64 0, .int .i64 0, .slice none 0 0] 28
  have cp := Lib.hid (fun W (h : Below w.heap.size w W) => dcopy_c ⟨s, st, nx, g, sl, xs⟩ A c n W (hl.below h) hn (by omega))
  simp only at cp
  have HN := Lib.hid hn
  clear hl hn
  simp only at hb1
  have hb2 : (b == nx - 1) = false := by simp; omega
  have hb3 : (b != nx) = false := by simpa using hb1
  clear hb1
  have t1 : t.toList.isEmpty = false := size_some ht0
  have t2 : (t.toList == []) = false := by cases e : t.toList with | nil => rw [e] at t1; simp at t1 | cons => rfl
  have t3 : 0 < t.size := by omega
  simp only at hc
  simp only at hc0
  have hc1 : (g % 32 != 0) = false := by simp [hc0]
  have hc2 : decide (288 < g + (t.size : Int)) = true := by simpa using hc
  go_enter Tryz.func144, Tryz.ntmps144
  go_wp2_with (first | (go_at_call 85; (with_reducible refine (cp.out _ zq1).mono ?_); rintro e w1 ⟨⟨A', c', rfl, HO⟩, hb⟩; have HO := HO.mono (base' := w.heap.size + 2) (by first | omega | (simp; done) | (simp; omega)); have hg1 : w.heap.size + 2 ≤ w1.heap.size := (by have := hb.size; first | omega | (simp at this; omega)); have HB := bl_step (w := w) zq0 hb; have hzB := HB.size; have K0 := Blk.on zq3 zq10 hb; (try clear eK0); have eK0 := Blk.ev K0; have K1 := Blk.on zq6 zq9 hb; (try clear eK1); have eK1 := Blk.ev K1; have K3 := fun cs => Blk.new w1 cs 28) | (go_at_call 135; with_reducible refine (failed_c 4 _).mono ?_; rintro e w' ⟨rfl, hb⟩; have HB := bl_step (w := w) zq0 hb; have hzB := HB.size; have K0 := Blk.on zq3 zq10 hb; (try clear eK0); have eK0 := Blk.ev K0; have K1 := Blk.on zq6 zq9 hb; (try clear eK1); have eK1 := Blk.ev K1) | fail)
  refine body_gen1 (g1 := w.heap.size + 1) (cs1 := #[.int .i64 7, .int .i64 4, .int .i64 0, .int .i64 0, .int .i64 0, .slice none 0 0]) (t1 := 28) (A := none) (xs := []) (w := w) zq19 Own.nil zq1 ?_; intro wf L1 HOf HBf; obtain ⟨e0, e1, e2, e3, e4, e5, _⟩ := Blk.all6 L1; exact bodyPost_ret (v := .agg #[.int .i64 7, .int .i64 4, .int .i64 0, .int .i64 0, .int .i64 0, .slice none 0 0]) (by simp [results, Tryz.results144, go_sem, e0, e1, e2, e3, e4, e5]) rfl ⟨⟨none, 0, 0, rfl, rfl, HOf⟩, HBf⟩
set_option maxRecDepth 100000 in
set_option maxHeartbeats 12800000 in
theorem more_z (d : DS) (b : Int) (t : ByteArray) (A : Option Addr) (c n : Nat) (w : World) (hl : Row w A d.ops) (hn : d.ops.length = n) (hz : n ≤ 768) (n0 : 0 ≤ d.nx) (n1 : d.nx ≤ 16) (g0 : 0 ≤ d.go) (g1 : d.go ≤ 288) (s0 : 0 ≤ d.sl) (s1 : d.sl ≤ 1) (ht : t.size ≤ 32) (hb1 : b = d.nx) (ht0 : ¬ t.size = 0) (hc0 : d.go % 32 = 0) (hc : ¬ 288 < d.go + (t.size : Int)) (h16 : d.nx = 16) :
    Calls Tryz.prog 144 #[(.agg #[.int .i64 d.st, .int .i64 d.su, .int .i64 d.nx, .int .i64 d.go, .int .i64 d.sl, .slice A n c]), .int .i64 b, .string t] w (Gives w (DS.fail 4)) := by
  obtain ⟨s, st, nx, g, sl, xs⟩ := d
  simp only at hl hn n0 n1 g0 g1 s0 s1 ⊢
  have HB := Below.refl w.heap.size w
  have K0 := Blk.new w #[.int .i64 s, .int .i64 st, .int .i64 nx, .int .i64 g, .int .i64 sl, .slice A n c] 28
  have K1 := fun cs0 => Blk.new1 w (.cells cs0 28) #[.int .i64 0, .int .i64 0, .int .i64 0, .int .i64 0, .int .i64 0, .slice none 0 0] 28
  have cp := Lib.hid (fun W (h : Below w.heap.size w W) => dcopy_c ⟨s, st, nx, g, sl, xs⟩ A c n W (hl.below h) hn (by omega))
  simp only at cp
  have HN := Lib.hid hn
  clear hl hn
  simp only at hb1
  have hb2 : (b == nx - 1) = false := by simp; omega
  have hb3 : (b != nx) = false := by simpa using hb1
  clear hb1
  have t1 : t.toList.isEmpty = false := size_some ht0
  have t2 : (t.toList == []) = false := by cases e : t.toList with | nil => rw [e] at t1; simp at t1 | cons => rfl
  have t3 : 0 < t.size := by omega
  simp only at hc
  simp only at hc0
  have hc1 : (g % 32 != 0) = false := by simp [hc0]
  simp only at h16
  have hc2 : decide (288 < g + (t.size : Int)) = false := by simpa using hc
  have hc3 : (nx == 16) = true := by simpa using h16
  clear h16
  go_enter Tryz.func144, Tryz.ntmps144
  go_wp2_with (first | (go_at_call 85; (with_reducible refine (cp.out _ zq1).mono ?_); rintro e w1 ⟨⟨A', c', rfl, HO⟩, hb⟩; have HO := HO.mono (base' := w.heap.size + 2) (by first | omega | (simp; done) | (simp; omega)); have hg1 : w.heap.size + 2 ≤ w1.heap.size := (by have := hb.size; first | omega | (simp at this; omega)); have HB := bl_step (w := w) zq0 hb; have hzB := HB.size; have K0 := Blk.on zq3 zq10 hb; (try clear eK0); have eK0 := Blk.ev K0; have K1 := Blk.on zq6 zq9 hb; (try clear eK1); have eK1 := Blk.ev K1; have K3 := fun cs => Blk.new w1 cs 28) | (go_at_call 135; with_reducible refine (failed_c 4 _).mono ?_; rintro e w' ⟨rfl, hb⟩; have HB := bl_step (w := w) zq0 hb; have hzB := HB.size; have K0 := Blk.on zq3 zq10 hb; (try clear eK0); have eK0 := Blk.ev K0; have K1 := Blk.on zq6 zq9 hb; (try clear eK1); have eK1 := Blk.ev K1) | fail)
  refine body_gen1 (g1 := w.heap.size + 1) (cs1 := #[.int .i64 7, .int .i64 4, .int .i64 0, .int .i64 0, .int .i64 0, .slice none 0 0]) (t1 := 28) (A := none) (xs := []) (w := w) zq19 Own.nil zq1 ?_; intro wf L1 HOf HBf; obtain ⟨e0, e1, e2, e3, e4, e5, _⟩ := Blk.all6 L1; exact bodyPost_ret (v := .agg #[.int .i64 7, .int .i64 4, .int .i64 0, .int .i64 0, .int .i64 0, .slice none 0 0]) (by simp [results, Tryz.results144, go_sem, e0, e1, e2, e3, e4, e5]) rfl ⟨⟨none, 0, 0, rfl, rfl, HOf⟩, HBf⟩
set_option maxRecDepth 100000 in
set_option maxHeartbeats 12800000 in
theorem more_m (d : DS) (b : Int) (t : ByteArray) (A : Option Addr) (c n : Nat) (w : World) (hl : Row w A d.ops) (hn : d.ops.length = n) (hz : n ≤ 768) (n0 : 0 ≤ d.nx) (n1 : d.nx ≤ 16) (g0 : 0 ≤ d.go) (g1 : d.go ≤ 288) (s0 : 0 ≤ d.sl) (s1 : d.sl ≤ 1) (ht : t.size ≤ 32) (hb1 : b = d.nx) (ht0 : ¬ t.size = 0) (hc0 : d.go % 32 = 0) (hc : ¬ 288 < d.go + (t.size : Int)) (h16 : ¬ d.nx = 16) :
    Calls Tryz.prog 144 #[(.agg #[.int .i64 d.st, .int .i64 d.su, .int .i64 d.nx, .int .i64 d.go, .int .i64 d.sl, .slice A n c]), .int .i64 b, .string t] w (Gives w (⟨1, d.su, d.nx + 1, d.go + (t.size : Int), d.sl, wordsL (slotAt d.sl + d.go) t⟩)) := by
  obtain ⟨s, st, nx, g, sl, xs⟩ := d
  simp only at hl hn n0 n1 g0 g1 s0 s1 ⊢
  have HB := Below.refl w.heap.size w
  have K0 := Blk.new w #[.int .i64 s, .int .i64 st, .int .i64 nx, .int .i64 g, .int .i64 sl, .slice A n c] 28
  have K1 := fun cs0 => Blk.new1 w (.cells cs0 28) #[.int .i64 0, .int .i64 0, .int .i64 0, .int .i64 0, .int .i64 0, .slice none 0 0] 28
  have cp := Lib.hid (fun W (h : Below w.heap.size w W) => dcopy_c ⟨s, st, nx, g, sl, xs⟩ A c n W (hl.below h) hn (by omega))
  simp only at cp
  have HN := Lib.hid hn
  clear hl hn
  simp only at hb1
  have hb2 : (b == nx - 1) = false := by simp; omega
  have hb3 : (b != nx) = false := by simpa using hb1
  clear hb1
  have t1 : t.toList.isEmpty = false := size_some ht0
  have t2 : (t.toList == []) = false := by cases e : t.toList with | nil => rw [e] at t1; simp at t1 | cons => rfl
  have t3 : 0 < t.size := by omega
  simp only at hc
  simp only at hc0
  have hc1 : (g % 32 != 0) = false := by simp [hc0]
  simp only at h16
  have hc2 : decide (288 < g + (t.size : Int)) = false := by simpa using hc
  have hc3 : (nx == 16) = false := by simpa using h16
  have wd := Lib.hid (fun W : World => dwords_c sl g t W s0 s1 g0 (by omega) (by omega))
  have hW3 := Lib.hid (show (wordsL (slotAt sl + g) t).length = (t.size + 3) / 4 by unfold wordsL; rw [wordsN_len])
  have OKE := Lib.hid (fun o (ho : o ∈ wordsL (slotAt sl + g) t) => (words_may (a := slotAt sl + g) (t := t) (by unfold slotAt; omega) (by have : baseN sl % 96 = 0 := (by unfold baseN; omega); unfold slotAt; omega) (by have := (base_le s0 s1).1; unfold slotAt; omega) o ho).2)
  generalize wordsL (slotAt sl + g) t = WL at *
  have hm9 : (t.size + 3) / 4 ≤ 8 := by omega
  generalize (t.size + 3) / 4 = m at *
  go_enter Tryz.func144, Tryz.ntmps144
  go_upto_region 12 with (first | (go_at_call 85; (with_reducible refine (cp.out _ zq1).mono ?_); rintro e w1 ⟨⟨A', c', rfl, HO⟩, hb⟩; have HO := HO.mono (base' := w.heap.size + 2) (by first | omega | (simp; done) | (simp; omega)); have hg1 : w.heap.size + 2 ≤ w1.heap.size := (by have := hb.size; first | omega | (simp at this; omega)); have HB := bl_step (w := w) zq0 hb; have hzB := HB.size; have K0 := Blk.on zq3 zq10 hb; (try clear eK0); have eK0 := Blk.ev K0; have K1 := Blk.on zq6 zq9 hb; (try clear eK1); have eK1 := Blk.ev K1; have K3 := fun cs => Blk.new w1 cs 28) | fail)
  
  have L0 : Blk (w1.alloc (.cells #[.int .i64 s, .int .i64 st, .int .i64 nx, .int .i64 g, .int .i64 sl, .slice A' n c'] 28)) w.heap.size #[.int .i64 s, .int .i64 st, .int .i64 nx, .int .i64 g, .int .i64 sl, .slice A n c] 28 := (by repeat (with_reducible first | exact K0 | exact K0 _ | apply Blk.alloc | apply Blk.drew | apply Blk.set6_0 | apply Blk.set6_1 | apply Blk.set6_2 | apply Blk.set6_3 | apply Blk.set6_4 | apply Blk.set6_5 | (apply Blk.off; (first | assumption | omega | (simp; omega))) | fail))
  have L1 : Blk (w1.alloc (.cells #[.int .i64 s, .int .i64 st, .int .i64 nx, .int .i64 g, .int .i64 sl, .slice A' n c'] 28)) (w.heap.size + 1) #[.int .i64 0, .int .i64 0, .int .i64 0, .int .i64 0, .int .i64 0, .slice none 0 0] 28 := zq19
  have L3 : Blk (w1.alloc (.cells #[.int .i64 s, .int .i64 st, .int .i64 nx, .int .i64 g, .int .i64 sl, .slice A' n c'] 28)) w1.heap.size #[.int .i64 s, .int .i64 st, .int .i64 nx, .int .i64 g, .int .i64 sl, .slice A' n c'] 28 := zq41
  have HBz : Below w.heap.size w (w1.alloc (.cells #[.int .i64 s, .int .i64 st, .int .i64 nx, .int .i64 g, .int .i64 sl, .slice A' n c'] 28)) := zq1
  (try clear eK0 eK1 eK3)
  clear HO HB hb hzB K0 K1 K3 cp
  generalize w1.alloc (.cells #[.int .i64 s, .int .i64 st, .int .i64 nx, .int .i64 g, .int .i64 sl, .slice A' n c'] 28) = wz at *
  generalize w1.heap.size = g3 at *
  have HB := HBz
  have K0 := L0
  have K1 := L1
  have K3 := L3
  obtain ⟨cK0_0, cK0_1, cK0_2, cK0_3, cK0_4, cK0_5, fK0, lK0, nK0, mK0⟩ := Blk.all6 K0
  obtain ⟨cK1_0, cK1_1, cK1_2, cK1_3, cK1_4, cK1_5, fK1, lK1, nK1, mK1⟩ := Blk.all6 K1
  obtain ⟨cK3_0, cK3_1, cK3_2, cK3_3, cK3_4, cK3_5, fK3, lK3, nK3, mK3⟩ := Blk.all6 K3
  clear HBz L0 L1 L3
  have z1 : g3 ≠ w.heap.size := by omega
  have z2 : g3 ≠ w.heap.size + 1 := by omega
  have z3 : w.heap.size ≠ g3 := by omega
  have z4 : w.heap.size + 1 ≠ g3 := by omega
  have HC : wz.cell? ⟨w.heap.size, 0, none⟩ = some (.int .i64 s) ∧ wz.cell? ⟨w.heap.size, 1, none⟩ = some (.int .i64 st) ∧ wz.cell? ⟨w.heap.size, 2, none⟩ = some (.int .i64 nx) ∧ wz.cell? ⟨w.heap.size, 3, none⟩ = some (.int .i64 g) ∧ wz.cell? ⟨w.heap.size, 4, none⟩ = some (.int .i64 sl) ∧ wz.cell? ⟨w.heap.size, 5, none⟩ = some (.slice A n c) := ⟨cK0_0, cK0_1, cK0_2, cK0_3, cK0_4, cK0_5⟩
  go_region_held3 (fun W => W.cell? ⟨w.heap.size, 0, none⟩ = some (.int .i64 s) ∧ W.cell? ⟨w.heap.size, 1, none⟩ = some (.int .i64 st) ∧ W.cell? ⟨w.heap.size, 2, none⟩ = some (.int .i64 nx) ∧ W.cell? ⟨w.heap.size, 3, none⟩ = some (.int .i64 g) ∧ W.cell? ⟨w.heap.size, 4, none⟩ = some (.int .i64 sl) ∧ W.cell? ⟨w.heap.size, 5, none⟩ = some (.slice A n c)) (first | ((repeat (with_reducible first | exact HC | (refine drew6 ?_) | (refine far6 rfl (by assumption) ?_) | fail)); done) | fail) (fail)
  all_goals (go_wp2_with (first | (go_at_call 195; (with_reducible refine (wd.out _).mono ?_); rintro e w6 ⟨A6, c6, rfl, hown6, hb⟩; have HO6 := (own_of hown6 hW3.out (by omega) OKE.out).mono (base' := g3 + 1) (by first | omega | (simp; omega)); have HB := bl_step (w := w) zq0 hb; have hzB := HB.size; have K0 := Blk.on zq3 zq10 hb; (try clear eK0); have eK0 := Blk.ev K0; have K1 := Blk.on zq6 zq9 hb; (try clear eK1); have eK1 := Blk.ev K1; have K3 := Blk.on zq26 zq31 hb; (try clear eK3); have eK3 := Blk.ev K3) | fail); refine body_gen1 (g1 := w.heap.size + 1) (cs1 := #[.int .i64 1, .int .i64 st, .int .i64 (nx + 1), .int .i64 (g + (t.size : Int)), .int .i64 sl, .slice A6 m c6]) (t1 := 28) (A := A6) (xs := WL) (w := w) zq19 (by (refine Own.mono (base := g3 + 1) ?_ (by omega)); (repeat (with_reducible first | exact HO6 | (refine Own.set ?_ (by dsimp only; omega) _) | (refine Own.alloc ?_ _) | (refine Own.drewn ?_) | fail))) zq1 ?_; intro wf L1 HOf HBf; obtain ⟨e0, e1, e2, e3, e4, e5, _⟩ := Blk.all6 L1; exact bodyPost_ret (v := .agg #[.int .i64 1, .int .i64 st, .int .i64 (nx + 1), .int .i64 (g + (t.size : Int)), .int .i64 sl, .slice A6 m c6]) (by simp [results, Tryz.results144, go_sem, e0, e1, e2, e3, e4, e5]) rfl ⟨⟨A6, m, c6, rfl, hW3.out, HOf⟩, HBf⟩)
set_option maxRecDepth 100000 in
set_option maxHeartbeats 12800000 in
theorem begin_e (f : ByteArray) (d : DS) (b : Int) (t : ByteArray) (A : Option Addr) (c n : Nat) (w : World) (hf : f.size = 768) (hl : Row w A d.ops) (hn : d.ops.length = n) (hz : n ≤ 768) (ht : t.size ≤ 32) (ht0 : t.size = 0) :
    Calls Tryz.prog 143 #[.string f, (.agg #[.int .i64 d.st, .int .i64 d.su, .int .i64 d.nx, .int .i64 d.go, .int .i64 d.sl, .slice A n c]), .int .i64 b, .string t] w (Gives w (DS.fail 5)) := by
  obtain ⟨s, st, nx, g, sl, xs⟩ := d
  simp only at hl hn ⊢
  have HB := Below.refl w.heap.size w
  have K0 := Blk.new w #[.int .i64 s, .int .i64 st, .int .i64 nx, .int .i64 g, .int .i64 sl, .slice A n c] 28
  have K1 := fun cs0 => Blk.new1 w (.cells cs0 28) #[.int .i64 0, .int .i64 0, .int .i64 0, .int .i64 0, .int .i64 0, .slice none 0 0] 28
  have cp := Lib.hid (fun W (h : Below w.heap.size w W) => dcopy_c ⟨s, st, nx, g, sl, xs⟩ A c n W (hl.below h) hn (by omega))
  simp only at cp
  have HN := Lib.hid hn
  clear hl hn
  have t1 : t = ⟨#[]⟩ := size_nil ht0
  subst t1
  clear ht0
  go_enter Tryz.func143, Tryz.ntmps143
  go_wp2_with (first | (go_at_call 135; with_reducible refine (failed_c 5 _).mono ?_; rintro e w' ⟨rfl, hb⟩; have HB := bl_step (w := w) zq0 hb; have hzB := HB.size; have K0 := Blk.on zq3 zq10 hb; (try clear eK0); have eK0 := Blk.ev K0; have K1 := Blk.on zq6 zq9 hb; (try clear eK1); have eK1 := Blk.ev K1) | fail)
  refine body_gen1 (g1 := w.heap.size + 1) (cs1 := #[.int .i64 7, .int .i64 5, .int .i64 0, .int .i64 0, .int .i64 0, .slice none 0 0]) (t1 := 28) (A := none) (xs := []) (w := w) zq19 Own.nil zq1 ?_; intro wf L1 HOf HBf; obtain ⟨e0, e1, e2, e3, e4, e5, _⟩ := Blk.all6 L1; exact bodyPost_ret (v := .agg #[.int .i64 7, .int .i64 5, .int .i64 0, .int .i64 0, .int .i64 0, .slice none 0 0]) (by simp [results, Tryz.results143, go_sem, e0, e1, e2, e3, e4, e5]) rfl ⟨⟨none, 0, 0, rfl, rfl, HOf⟩, HBf⟩
set_option maxRecDepth 100000 in
set_option maxHeartbeats 12800000 in
theorem begin_b (f : ByteArray) (d : DS) (b : Int) (t : ByteArray) (A : Option Addr) (c n : Nat) (w : World) (hf : f.size = 768) (hl : Row w A d.ops) (hn : d.ops.length = n) (hz : n ≤ 768) (ht : t.size ≤ 32) (ht0 : ¬ t.size = 0) (hb0 : ¬ b = 0) :
    Calls Tryz.prog 143 #[.string f, (.agg #[.int .i64 d.st, .int .i64 d.su, .int .i64 d.nx, .int .i64 d.go, .int .i64 d.sl, .slice A n c]), .int .i64 b, .string t] w (Gives w (DS.fail 4)) := by
  obtain ⟨s, st, nx, g, sl, xs⟩ := d
  simp only at hl hn ⊢
  have HB := Below.refl w.heap.size w
  have K0 := Blk.new w #[.int .i64 s, .int .i64 st, .int .i64 nx, .int .i64 g, .int .i64 sl, .slice A n c] 28
  have K1 := fun cs0 => Blk.new1 w (.cells cs0 28) #[.int .i64 0, .int .i64 0, .int .i64 0, .int .i64 0, .int .i64 0, .slice none 0 0] 28
  have cp := Lib.hid (fun W (h : Below w.heap.size w W) => dcopy_c ⟨s, st, nx, g, sl, xs⟩ A c n W (hl.below h) hn (by omega))
  simp only at cp
  have HN := Lib.hid hn
  clear hl hn
  have t1 : t.toList.isEmpty = false := size_some ht0
  have t2 : (t.toList == []) = false := by cases e : t.toList with | nil => rw [e] at t1; simp at t1 | cons => rfl
  have t3 : 0 < t.size := by omega
  have hb1 : (b != 0) = true := by simpa using hb0
  go_enter Tryz.func143, Tryz.ntmps143
  go_wp2_with (first | (go_at_call 135; with_reducible refine (failed_c 4 _).mono ?_; rintro e w' ⟨rfl, hb⟩; have HB := bl_step (w := w) zq0 hb; have hzB := HB.size; have K0 := Blk.on zq3 zq10 hb; (try clear eK0); have eK0 := Blk.ev K0; have K1 := Blk.on zq6 zq9 hb; (try clear eK1); have eK1 := Blk.ev K1) | fail)
  refine body_gen1 (g1 := w.heap.size + 1) (cs1 := #[.int .i64 7, .int .i64 4, .int .i64 0, .int .i64 0, .int .i64 0, .slice none 0 0]) (t1 := 28) (A := none) (xs := []) (w := w) zq19 Own.nil zq1 ?_; intro wf L1 HOf HBf; obtain ⟨e0, e1, e2, e3, e4, e5, _⟩ := Blk.all6 L1; exact bodyPost_ret (v := .agg #[.int .i64 7, .int .i64 4, .int .i64 0, .int .i64 0, .int .i64 0, .slice none 0 0]) (by simp [results, Tryz.results143, go_sem, e0, e1, e2, e3, e4, e5]) rfl ⟨⟨none, 0, 0, rfl, rfl, HOf⟩, HBf⟩
set_option maxRecDepth 100000 in
set_option maxHeartbeats 12800000 in
theorem begin_m (f : ByteArray) (d : DS) (b : Int) (t : ByteArray) (A : Option Addr) (c n : Nat) (w : World) (hf : f.size = 768) (hl : Row w A d.ops) (hn : d.ops.length = n) (hz : n ≤ 768) (ht : t.size ≤ 32) (ht0 : ¬ t.size = 0) (hb0 : b = 0) :
    Calls Tryz.prog 143 #[.string f, (.agg #[.int .i64 d.st, .int .i64 d.su, .int .i64 d.nx, .int .i64 d.go, .int .i64 d.sl, .slice A n c]), .int .i64 b, .string t] w (Gives w (downM f d.su t)) := by
  obtain ⟨s, st, nx, g, sl, xs⟩ := d
  simp only at hl hn ⊢
  have HB := Below.refl w.heap.size w
  have K0 := Blk.new w #[.int .i64 s, .int .i64 st, .int .i64 nx, .int .i64 g, .int .i64 sl, .slice A n c] 28
  have K1 := fun cs0 => Blk.new1 w (.cells cs0 28) #[.int .i64 0, .int .i64 0, .int .i64 0, .int .i64 0, .int .i64 0, .slice none 0 0] 28
  have cp := Lib.hid (fun W (h : Below w.heap.size w W) => dcopy_c ⟨s, st, nx, g, sl, xs⟩ A c n W (hl.below h) hn (by omega))
  simp only at cp
  have HN := Lib.hid hn
  clear hl hn
  have t1 : t.toList.isEmpty = false := size_some ht0
  have t2 : (t.toList == []) = false := by cases e : t.toList with | nil => rw [e] at t1; simp at t1 | cons => rfl
  have t3 : 0 < t.size := by omega
  subst hb0
  obtain ⟨ho0, ho1⟩ := other_rng f
  have ot := Lib.hid (fun W : World => other_c f W hf)
  have hD := Lib.hid (show downM f st t = ⟨1, st, 1, t.size, otherN f, erL (otherN f) ++ wordsL (slotAt (otherN f) + 0) t⟩ by rw [Int.add_zero]; rfl)
  have OKE := Lib.hid (show ∀ o ∈ erL (otherN f) ++ wordsL (slotAt (otherN f) + 0) t, OpOk o by rw [Int.add_zero]; exact fun o ho => begin_ops ho0 ho1 ht o ho)
  generalize otherN f = so at *
  have er := Lib.hid (fun W : World => erases_c so W ho0 ho1)
  have wd := Lib.hid (fun W : World => dwords_c so 0 t W ho0 ho1 (by omega) (by omega) (by omega))
  have hE3 := Lib.hid (show (erL so).length = 3 from erN_len _ _)
  have hW3 := Lib.hid (show (wordsL (slotAt so + 0) t).length = (t.size + 3) / 4 by unfold wordsL; rw [wordsN_len])
  generalize erL so = EL at *
  generalize wordsL (slotAt so + 0) t = WL at *
  have hm9 : (t.size + 3) / 4 ≤ 8 := by omega
  generalize (t.size + 3) / 4 = m at *
  obtain ⟨i0, hi0, hq0, hq1, hq2⟩ := info_parts op_info
  rw [hD.out]
  go_enter Tryz.func143, Tryz.ntmps143
  go_upto_region 9 with (first | (go_at_call 85; (with_reducible refine (cp.out _ zq1).mono ?_); rintro e w1 ⟨⟨A', c', rfl, HO⟩, hb⟩; have HO := HO.mono (base' := w.heap.size + 2) (by first | omega | (simp; done) | (simp; omega)); have hg1 : w.heap.size + 2 ≤ w1.heap.size := (by have := hb.size; first | omega | (simp at this; omega)); have HB := bl_step (w := w) zq0 hb; have hzB := HB.size; have K0 := Blk.on zq3 zq10 hb; (try clear eK0); have eK0 := Blk.ev K0; have K1 := Blk.on zq6 zq9 hb; (try clear eK1); have eK1 := Blk.ev K1; have K3 := fun cs => Blk.new w1 cs 28) | ((first | (go_at_call 68; with_reducible refine (ot.out _).mono ?_; rintro e w' ⟨rfl, hb⟩) | (go_at_call 194; (with_reducible refine (er.out _).mono ?_); rintro e w5 ⟨A5, c5, rfl, hown5, hb⟩; have hg5 := eK3.2.2.1)); have HB := bl_step (w := w) zq0 hb; have hzB := HB.size; have K0 := Blk.on zq3 zq10 hb; (try clear eK0); have eK0 := Blk.ev K0; have K1 := Blk.on zq6 zq9 hb; (try clear eK1); have eK1 := Blk.ev K1; have K3 := Blk.on zq26 zq31 hb; (try clear eK3); have eK3 := Blk.ev K3) | fail)
  have L1 : Blk (w5.setCell ⟨w1.heap.size, 5, none⟩ (.slice A5 3 c5)) (w.heap.size + 1) #[.int .i64 0, .int .i64 0, .int .i64 0, .int .i64 0, .int .i64 0, .slice none 0 0] 28 := zq19
  have L3 : Blk (w5.setCell ⟨w1.heap.size, 5, none⟩ (.slice A5 3 c5)) w1.heap.size #[.int .i64 1, .int .i64 st, .int .i64 1, .int .i64 t.size, .int .i64 so, .slice A5 3 c5] 28 := zq41
  have HBz : Below w.heap.size w (w5.setCell ⟨w1.heap.size, 5, none⟩ (.slice A5 3 c5)) := zq1
  have hb9 := hb.size
  have hg9 : w1.heap.size < (w'.setCell ⟨w1.heap.size, 4, none⟩ (.int .i64 so)).heap.size := (by first | exact hg5 | (simp; omega))
  have hown5 := ownsRow_setCell_below hown5 (a := ⟨w1.heap.size, 5, none⟩) hg9 (.slice A5 3 c5)
  have hz9 : (w'.setCell ⟨w1.heap.size, 4, none⟩ (.int .i64 so)).heap.size ≤ (w5.setCell ⟨w1.heap.size, 5, none⟩ (.slice A5 3 c5)).heap.size := (by simp at hb9 ⊢; omega)
  (try clear eK0 eK1 eK3)
  clear HO HB hb hzB hb9 K0 K1 K3 cp er ot hg5
  generalize (w'.setCell ⟨w1.heap.size, 4, none⟩ (.int .i64 so)).heap.size = b5 at *
  generalize w5.setCell ⟨w1.heap.size, 5, none⟩ (.slice A5 3 c5) = wz at *
  generalize w1.heap.size = g3 at *
  have HB := HBz
  have K1 := L1
  have K3 := L3
  obtain ⟨cK1_0, cK1_1, cK1_2, cK1_3, cK1_4, cK1_5, fK1, lK1, nK1, mK1⟩ := Blk.all6 K1
  obtain ⟨cK3_0, cK3_1, cK3_2, cK3_3, cK3_4, cK3_5, fK3, lK3, nK3, mK3⟩ := Blk.all6 K3
  clear HBz L1 L3
  have z2 : g3 ≠ w.heap.size + 1 := by omega
  have z4 : w.heap.size + 1 ≠ g3 := by omega
  go_region_law (first | (go_simp; (go_at_call 195; (with_reducible refine (wd.out _).mono ?_); rintro e w6 ⟨A6, c6, rfl, hown6, hb⟩; have hown5 := own_below hown5 (w' := w6) zq1; have hz6 : b5 ≤ w6.heap.size := Nat.le_trans hz9 hb.size; have LW := lies_own encOp_len hown6 hW3.out; have HB := bl_step (w := w) zq0 hb; have hzB := HB.size; have K1 := Blk.on zq6 zq9 hb; (try clear eK1); have eK1 := Blk.ev K1; have K3 := Blk.on zq26 zq31 hb; (try clear eK3); have eK3 := Blk.ev K3)) | ((refine step_grow (k := 3) (enc := encOp) (xs := WL) rfl _ _ 26 rfl _ b5 183 i0 _ 32 Tryz.underlying26 hi0 hq0 hq1 hq2 rfl (by decide) encOp_len encOp_one (.slice A5 3 c5) rfl 3 EL hown5 A6 m c6 rfl LW hW3.out (by simp only [maxLen]; omega) (by omega) (by omega) ?_); intro A8 c8 w8 hown8 hg8 hat8; have hb8 := bl_own hown5 hg8 (by omega); have K1 := blk_low K1 hb8 (by omega); have K3 := blk_low K3 hb8 (by omega); have HB := HB.trans (hb8.mono (by omega)); have HO8 := own_of hown8 (by rw [List.length_append, hE3.out, hW3.out]) (by omega) OKE.out; (try clear eK1 eK3); obtain ⟨cK1_0, cK1_1, cK1_2, cK1_3, cK1_4, cK1_5, fK1, lK1, nK1, mK1⟩ := Blk.all6 K1; obtain ⟨cK3_0, cK3_1, cK3_2, cK3_3, cK3_4, cK3_5, fK3, lK3, nK3, mK3⟩ := Blk.all6 K3) | fail)
  all_goals (go_wp2_with fail; refine body_gen1 (g1 := w.heap.size + 1) (cs1 := #[.int .i64 1, .int .i64 st, .int .i64 1, .int .i64 t.size, .int .i64 so, .slice A8 (3 + m) c8]) (t1 := 28) (A := A8) (xs := (EL ++ WL)) (w := w) zq19 (by (refine Own.mono (base := b5) ?_ (by omega)); (repeat (with_reducible first | exact HO8 | (refine Own.set ?_ (by dsimp only; omega) _) | (refine Own.alloc ?_ _) | (refine Own.drewn ?_) | fail))) zq1 ?_; intro wf L1 HOf HBf; obtain ⟨e0, e1, e2, e3, e4, e5, _⟩ := Blk.all6 L1; exact bodyPost_ret (v := .agg #[.int .i64 1, .int .i64 st, .int .i64 1, .int .i64 t.size, .int .i64 so, .slice A8 (3 + m) c8]) (by simp [results, Tryz.results143, go_sem, e0, e1, e2, e3, e4, e5]) rfl ⟨⟨A8, 3 + m, c8, rfl, (by rw [List.length_append, hE3.out, hW3.out]), HOf⟩, HBf⟩)
theorem begin_c (f : ByteArray) (d : DS) (b : Int) (t : ByteArray) (A : Option Addr) (c n : Nat) (w : World) (hf : f.size = 768) (hl : Row w A d.ops) (hn : d.ops.length = n) (hz : n ≤ 768) (ht : t.size ≤ 32) (h0 : d.st = 0) :
    Calls Tryz.prog 143 #[.string f, (.agg #[.int .i64 d.st, .int .i64 d.su, .int .i64 d.nx, .int .i64 d.go, .int .i64 d.sl, .slice A n c]), .int .i64 b, .string t] w (Gives w (downD f d b t)) := by
  unfold downD
  rw [if_pos h0]
  by_cases ht0 : t.size = 0
  · rw [if_pos ht0]; exact begin_e f d b t A c n w hf hl hn hz ht ht0
  · rw [if_neg ht0]
    by_cases hb0 : b = 0
    · rw [if_neg (by simpa using hb0)]; exact begin_m f d b t A c n w hf hl hn hz ht ht0 hb0
    · rw [if_pos hb0]; exact begin_b f d b t A c n w hf hl hn hz ht ht0 hb0
theorem more_c (f : ByteArray) (d : DS) (b : Int) (t : ByteArray) (A : Option Addr) (c n : Nat) (w : World) (hl : Row w A d.ops) (hn : d.ops.length = n) (hz : n ≤ 768) (n0 : 0 ≤ d.nx) (n1 : d.nx ≤ 16) (g0 : 0 ≤ d.go) (g1 : d.go ≤ 288) (s0 : 0 ≤ d.sl) (s1 : d.sl ≤ 1) (ht : t.size ≤ 32) (h0 : ¬ d.st = 0) :
    Calls Tryz.prog 144 #[(.agg #[.int .i64 d.st, .int .i64 d.su, .int .i64 d.nx, .int .i64 d.go, .int .i64 d.sl, .slice A n c]), .int .i64 b, .string t] w (Gives w (downD f d b t)) := by
  unfold downD
  rw [if_neg h0]
  by_cases hb0 : b = d.nx - 1
  · rw [if_pos hb0]; exact more_s d b t A c n w hl hn hz n0 n1 g0 g1 s0 s1 ht hb0
  · rw [if_neg hb0]
    by_cases hb1 : b = d.nx
    · rw [if_neg (by simpa using hb1)]
      by_cases ht0 : t.size = 0
      · rw [if_pos ht0]; exact more_e d b t A c n w hl hn hz n0 n1 g0 g1 s0 s1 ht hb1 ht0
      · rw [if_neg ht0]
        by_cases hc0 : d.go % 32 = 0
        · by_cases hc : 288 < d.go + (t.size : Int)
          · rw [if_pos (.inr (.inl hc))]; exact more_y d b t A c n w hl hn hz n0 n1 g0 g1 s0 s1 ht hb1 ht0 hc0 hc
          · by_cases h16 : d.nx = 16
            · rw [if_pos (.inr (.inr (by omega)))]; exact more_z d b t A c n w hl hn hz n0 n1 g0 g1 s0 s1 ht hb1 ht0 hc0 hc h16
            · rw [if_neg (by rintro (k | k | k); exact k hc0; exact hc k; omega)]
              exact more_m d b t A c n w hl hn hz n0 n1 g0 g1 s0 s1 ht hb1 ht0 hc0 hc h16
        · rw [if_pos (.inl hc0)]; exact more_x d b t A c n w hl hn hz n0 n1 g0 g1 s0 s1 ht hb1 ht0 hc0
    · rw [if_pos hb1]; exact more_b d b t A c n w hl hn hz n0 n1 g0 g1 s0 s1 ht hb0 hb1
set_option maxRecDepth 100000 in
set_option maxHeartbeats 12800000 in
theorem take_c (f : ByteArray) (d : DS) (b : Int) (t : ByteArray) (A : Option Addr) (c n : Nat) (w : World) (hl : Row w A d.ops) (hn : d.ops.length = n) (hok : downOk f d b t = true) :
    Calls Tryz.prog 74 #[.string f, (.agg #[.int .i64 d.st, .int .i64 d.su, .int .i64 d.nx, .int .i64 d.go, .int .i64 d.sl, .slice A n c]), .int .i64 b, .string t] w (GivesE w (downD f d b t) 0) := by
  obtain ⟨s, st, nx, g, sl, xs⟩ := d
  simp only at hl hn ⊢
  have HB := Below.refl w.heap.size w
  have K0 := Blk.new w #[.int .i64 s, .int .i64 st, .int .i64 nx, .int .i64 g, .int .i64 sl, .slice A n c] 28
  have K1 := fun cs0 => Blk.new1 w (.cells cs0 28) #[.int .i64 0, .int .i64 0, .int .i64 0, .int .i64 0, .int .i64 0, .slice none 0 0] 28
  obtain ⟨⟨hf, hmay⟩, hst, hr, hz⟩ := down_yes hok
  simp only at hst
  obtain ⟨m1, m2, m3, m4, m5⟩ := may_nums hmay
  have hlen := may_len hmay
  simp only at hlen m1 m2 m3 m4 m5
  have mm := Lib.hid (fun W : World => may_c f W (by omega))
  rw [decide_eq_true hf] at mm
  have dm := Lib.hid (fun W (h : Below w.heap.size w W) => devMay_c s st nx g sl A c n xs W (hl.below h) hn)
  rw [show devMay s st nx g sl xs = true from hmay] at dm
  have vv := Lib.hid (fun W : World => Su.value_c b W)
  rw [hr] at vv
  have ll := Lib.hid (fun W : World => Su.length_c (t.size : Int) W)
  rw [show rngB (t.size : Int) 0 32 = true by simp [rngB]; omega] at ll
  have HN := Lib.hid hn
  rcases hst with h0 | h0
  · subst h0
    have bg := Lib.hid (fun W (h : Below w.heap.size w W) => begin_c f ⟨0, st, nx, g, sl, xs⟩ b t A c n W hf (hl.below h) hn (by omega) hz rfl)
    clear hok hl hn hmay hr hlen m1 m2 hf
    generalize downD f ⟨0, st, nx, g, sl, xs⟩ b t = D at *
    obtain ⟨ds, dst, dnx, dg, dsl, dx⟩ := D
    simp only [Gives] at bg
    go_enter Tryz.func74, Tryz.ntmps74
    go_wp2_with (first | (go_at_call 76; with_reducible refine (mm.out _).mono ?_; rintro e w' ⟨rfl, rfl⟩) | ((first | (go_at_call 104; with_reducible refine (dm.out _ zq1).mono ?_; rintro e w' ⟨rfl, hb⟩) | (go_at_call 143; (with_reducible refine (bg.out _ zq1).mono ?_); rintro e w7 ⟨⟨A7, n7, c7, rfl, h7, HO7⟩, hb⟩; have HO7 := HO7.mono (base' := w.heap.size + 2) (by first | omega | (simp; omega)))); have HB := bl_step (w := w) zq0 hb; have hzB := HB.size; have K0 := Blk.on zq3 zq10 hb; (try clear eK0); have eK0 := Blk.ev K0; have K1 := Blk.on zq6 zq9 hb; (try clear eK1); have eK1 := Blk.ev K1) | (go_at_call 141; with_reducible refine (vv.out _).mono ?_; rintro e w' ⟨rfl, rfl⟩) | (go_at_call 142; with_reducible refine (ll.out _).mono ?_; rintro e w' ⟨rfl, rfl⟩) | fail)
    refine body_gen1 (g1 := w.heap.size + 1) (cs1 := #[.int .i64 ds, .int .i64 dst, .int .i64 dnx, .int .i64 dg, .int .i64 dsl, .slice A7 n7 c7]) (t1 := 28) (A := A7) (xs := dx) (w := w) zq19 (by (refine Own.mono (base := w.heap.size + 2) ?_ (by omega)); (repeat (with_reducible first | exact HO7 | (refine Own.set ?_ (by dsimp only; omega) _) | (refine Own.alloc ?_ _) | (refine Own.drewn ?_) | fail))) zq1 ?_; intro wf L1 HOf HBf; obtain ⟨e0, e1, e2, e3, e4, e5, _⟩ := Blk.all6 L1; exact bodyPost_ret (v := .tuple #[.agg #[.int .i64 ds, .int .i64 dst, .int .i64 dnx, .int .i64 dg, .int .i64 dsl, .slice A7 n7 c7], .int .i64 0]) (by simp [results, Tryz.results74, go_sem, e0, e1, e2, e3, e4, e5]) rfl ⟨⟨A7, n7, c7, rfl, h7, HOf⟩, HBf⟩
  · subst h0
    have bg := Lib.hid (fun W (h : Below w.heap.size w W) => more_c f ⟨3, st, nx, g, sl, xs⟩ b t A c n W (hl.below h) hn (by omega) m3.1 m3.2 m4.1 m4.2 m5.1 m5.2 hz (by simp))
    clear hok hl hn hmay hr hlen m1 m2 hf
    generalize downD f ⟨3, st, nx, g, sl, xs⟩ b t = D at *
    obtain ⟨ds, dst, dnx, dg, dsl, dx⟩ := D
    simp only [Gives] at bg
    go_enter Tryz.func74, Tryz.ntmps74
    go_wp2_with (first | (go_at_call 76; with_reducible refine (mm.out _).mono ?_; rintro e w' ⟨rfl, rfl⟩) | ((first | (go_at_call 104; with_reducible refine (dm.out _ zq1).mono ?_; rintro e w' ⟨rfl, hb⟩) | (go_at_call 144; (with_reducible refine (bg.out _ zq1).mono ?_); rintro e w7 ⟨⟨A7, n7, c7, rfl, h7, HO7⟩, hb⟩; have HO7 := HO7.mono (base' := w.heap.size + 2) (by first | omega | (simp; omega)))); have HB := bl_step (w := w) zq0 hb; have hzB := HB.size; have K0 := Blk.on zq3 zq10 hb; (try clear eK0); have eK0 := Blk.ev K0; have K1 := Blk.on zq6 zq9 hb; (try clear eK1); have eK1 := Blk.ev K1) | (go_at_call 141; with_reducible refine (vv.out _).mono ?_; rintro e w' ⟨rfl, rfl⟩) | (go_at_call 142; with_reducible refine (ll.out _).mono ?_; rintro e w' ⟨rfl, rfl⟩) | fail)
    refine body_gen1 (g1 := w.heap.size + 1) (cs1 := #[.int .i64 ds, .int .i64 dst, .int .i64 dnx, .int .i64 dg, .int .i64 dsl, .slice A7 n7 c7]) (t1 := 28) (A := A7) (xs := dx) (w := w) zq19 (by (refine Own.mono (base := w.heap.size + 2) ?_ (by omega)); (repeat (with_reducible first | exact HO7 | (refine Own.set ?_ (by dsimp only; omega) _) | (refine Own.alloc ?_ _) | (refine Own.drewn ?_) | fail))) zq1 ?_; intro wf L1 HOf HBf; obtain ⟨e0, e1, e2, e3, e4, e5, _⟩ := Blk.all6 L1; exact bodyPost_ret (v := .tuple #[.agg #[.int .i64 ds, .int .i64 dst, .int .i64 dnx, .int .i64 dg, .int .i64 dsl, .slice A7 n7 c7], .int .i64 0]) (by simp [results, Tryz.results74, go_sem, e0, e1, e2, e3, e4, e5]) rfl ⟨⟨A7, n7, c7, rfl, h7, HOf⟩, HBf⟩
end Go.Proofs.YtccblleobcidfaaGreat.Dv
